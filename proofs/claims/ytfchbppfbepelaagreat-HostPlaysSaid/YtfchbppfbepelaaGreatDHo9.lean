/- the document's host: Start, Tick, Stop (printed by tools/gen_dho9.py). -/
import Derived.Test.YtfchbppfbepelaaGreatDHo8
namespace Go.Proofs.YtfchbppfbepelaaGreat
open Go.RowKit
set_option linter.unusedVariables false
/-- what the document's host may hold -/
structure DI (d : Dh) : Prop where
  sv : d.sv.length ≤ 40
  un : d.un.length ≤ 40
  wt : 1 ≤ d.wt ∧ d.wt ≤ 100
  rt : 0 ≤ d.rt ∧ d.rt ≤ 10
  ag : d.st = 1 ∨ d.st = 2 → 0 ≤ d.ag ∧ d.ag ≤ 10
  tk : d.st = 1 ∨ d.st = 2 → 0 ≤ d.tk ∧ d.tk ≤ 102400
  ck : d.st = 2 → d.hc = true → d.ck.length ≤ 1494
  ss : d.st = 3 → 0 ≤ d.ss ∧ d.ss ≤ 65535
theorem HR.di {p : Ps} {d : Dh} (h : HR p d) (hi : HI p) : DI d :=
  ⟨by rw [← h.sv]; exact hi.sv, by rw [← h.un]; exact hi.un, by rw [← h.wt]; exact hi.wt, by rw [← h.rt]; exact hi.rt,
   fun hs => by rw [← (h.tk hs).2]; exact ⟨hi.ag.1, Int.le_trans hi.ag.2 hi.rt.2⟩, fun hs => by rw [← (h.tk hs).1]; exact hi.tk,
   fun hs hc => hi.o d.ck (by rw [h.o2 hs]; unfold dCk; rw [if_pos hc]),
   fun hs => by have := hi.ss; rw [h.ss, dhShow_3 d hs] at this; exact this⟩
theorem DOut.later {w w1 w' : World} {g : Nat} {l : List Eth} {d : Dh} {e : Ending} (h : DOut w1 g l d e w') (hF : Fr [g] w w1) : DOut w g l d e w' := ⟨h.1.later hF (fun x hx => hx), h.2⟩
section
variable {w : World} {g : Nat} {d : Dh}
theorem dask_di (hst : d.st = 1 ∨ d.st = 2) (h1 : d.sv.length ≤ 40) (h2 : d.un.length ≤ 40) (h3 : d.st = 2 → d.hc = true → d.ck.length ≤ 1494) (hB : Blk w g (dhC d) 254) : Calls Tryz.prog 198 #[.pointer (some ⟨g, 0, none⟩)] w (DOut w g (dSayL d) { d with tk := 0 }) := by
  rcases hst with hst | hst
  · exact dask_one h1 h2 hst hB
  · by_cases hh : d.hc = true
    · exact dask_full h1 h2 hst hh (h3 hst hh) hB
    · exact dask_bare h1 h2 hst (by simpa using hh) hB
set_option maxRecDepth 100000 in
set_option maxHeartbeats 8000000 in
theorem dstart_any (h : DI d) (hB : Blk w g (dhC d) 254) : Calls Tryz.prog 51 #[.pointer (some ⟨g, 0, none⟩)] w (DOut w g (dStart d).2 (dStart d).1) := by
  have d10 : w.cell? ⟨g, 10, none⟩ = some (.int .i64 d.st) := hB.c 10 _ rfl
  unfold dStart
  by_cases hst : d.st = 0 ∨ d.st = 4
  · rw [if_pos hst]
    have f10 := hB.fz 10
    have f21 := hB.fz 21
    have d21 : w.cell? ⟨g, 21, none⟩ = some (.int .i64 d.ag) := hB.c 21 _ rfl
    have hB1 : Blk ((w.setCell ⟨g, 10, none⟩ (.int .i64 1)).setCell ⟨g, 21, none⟩ (.int .i64 0)) g (dhC { d with st := 1, ag := 0 }) 254 := by
      have := (hB.set 10 (.int .i64 1)).set 21 (.int .i64 0)
      simpa [dhC] using this
    have HF1 := Lib.hid (((Fr.refl [g] w).setCell (p := ⟨g, 10, none⟩) (by simp) (.int .i64 1)).setCell (p := ⟨g, 21, none⟩) (by simp) (.int .i64 0))
    have AK := Lib.hid (dask_one (d := { d with st := 1, ag := 0 }) h.sv h.un rfl hB1)
    have hgl := hB.lt
    clear hB hB1 h
    rcases hst with hst | hst
    all_goals
      rw [hst] at d10
      clear hst
      go_enter Tryz.func51, Tryz.ntmps51
      go_wp2_with fail
      refine AK.out.mono ?_
      rintro e w2 ⟨⟨A, c, rfl, hrow, hF⟩, hB2⟩
      have HX := Lib.hid (DOut.later (show DOut _ g (dSayL { d with st := 1, ag := 0 }) { ({ d with st := 1, ag := 0 } : Dh) with tk := 0 } (.returned (.slice A (dSayL { d with st := 1, ag := 0 }).length c)) w2 from ⟨⟨A, c, rfl, hrow, hF⟩, hB2⟩) HF1.out)
      clear hrow hF hB2 AK
      go_wp2_with fail
      go_ret
      exact HX.out
  · rw [if_neg hst]
    have n0 : (d.st != 0) = true := by rw [bne_iff_ne]; exact fun e => hst (Or.inl e)
    have n4 : (d.st != 4) = true := by rw [bne_iff_ne]; exact fun e => hst (Or.inr e)
    have HX : Hid (DOut w g [] d (.returned (.slice none 0 0)) w) := Lib.hid ⟨OutP.none_ (Fr.refl _ _), hB⟩
    clear hst hB h
    go_enter Tryz.func51, Tryz.ntmps51
    go_wp2_with fail
    go_ret
    exact HX.out
theorem pow_int (j : Nat) (hj : j ≤ 10) (x : Int) (h0 : 1 ≤ x) (h1 : x ≤ 100) : 1 ≤ x * 2 ^ j ∧ x * 2 ^ j ≤ 102400 := by
  obtain ⟨p0, p1⟩ := pow_small j hj
  obtain ⟨P, hP⟩ : ∃ P : Int, (2 : Int) ^ j = P := ⟨_, rfl⟩
  rw [hP] at p0 p1 ⊢
  have a := Int.mul_le_mul h1 p1 (by omega) (by omega : (0 : Int) ≤ 100)
  have b := Int.mul_le_mul h0 p0 (by omega) (by omega : (0 : Int) ≤ x)
  omega
set_option maxRecDepth 100000 in
set_option maxHeartbeats 8000000 in
theorem dtick_any (h : DI d) (hB : Blk w g (dhC d) 254) : Calls Tryz.prog 55 #[.pointer (some ⟨g, 0, none⟩)] w (DOut w g (dTick d).2 (dTick d).1) := by
  have d10 : w.cell? ⟨g, 10, none⟩ = some (.int .i64 d.st) := hB.c 10 _ rfl
  by_cases hst : d.st = 1 ∨ d.st = 2
  · have hTk : dTick d = if d.tk + 1 < d.wt * 2 ^ d.ag.toNat then ({ d with tk := d.tk + 1 }, []) else if d.rt ≤ d.ag then ({ d with tk := d.tk + 1, st := 4 }, []) else ({ d with tk := 0, ag := d.ag + 1 }, dSayL d) := by unfold dTick; rw [if_pos hst]
    have HTk := Lib.hid hTk
    obtain ⟨w0, w1⟩ := h.wt
    obtain ⟨r0, r1⟩ := h.rt
    obtain ⟨a0, a1⟩ := h.ag hst
    obtain ⟨t0, t1⟩ := h.tk hst
    have HDI := Lib.hid h
    have HST := Lib.hid hst
    have d20 : w.cell? ⟨g, 20, none⟩ = some (.int .i64 d.tk) := hB.c 20 _ rfl
    have f20 := hB.fz 20
    have hB1 : Blk (w.setCell ⟨g, 20, none⟩ (.int .i64 (d.tk + 1))) g (dhC { d with tk := d.tk + 1 }) 254 := by
      have := hB.set 20 (.int .i64 (d.tk + 1))
      simpa [dhC] using this
    have hF1 := (Fr.refl [g] w).setCell (p := ⟨g, 20, none⟩) (by simp) (.int .i64 (d.tk + 1))
    obtain ⟨W1, hW1⟩ : ∃ W, w.setCell ⟨g, 20, none⟩ (.int .i64 (d.tk + 1)) = W := ⟨_, rfl⟩
    rw [hW1] at hB1 hF1
    have HH : Hid (∀ W, Fr [] W1 W → Blk W g (dhC { d with tk := d.tk + 1 }) 254) := Lib.hid fun W hW => hW.blk hB1 (by simp)
    have x4 : W1.cell? ⟨g, 9, none⟩ = some (.int .i64 d.wt) := hB1.c 9 _ rfl
    have HF1 := Lib.hid hF1
    have hgl := hB.lt
    have HCD : d.st = 1 ∨ d.st = 2 := hst
    clear hB hB1 hF1 h hTk
    rcases hst with hst | hst
    all_goals
      rw [hst] at d10
      clear hst HCD
      go_enter Tryz.func55, Tryz.ntmps55
      go_wp2_with fail
      clear d10 d20 f20 x4
      go_loopw [3, 4] (fun nv iv wr => ∃ j : Nat, (j : Int) ≤ d.ag ∧ iv = .int .i64 j ∧ nv = .int .i64 (d.wt * 2 ^ j) ∧ Fr [] W1 wr) (fun _ iv _ => (d.ag - intOf iv).toNat)
      case atStart => exact ⟨0, by omega, rfl, by simp, Fr.refl _ _⟩
      case round =>
        obtain ⟨j, hj, rfl, rfl, hF⟩ := hrel
        have x11 : wr.cell? ⟨g, 21, none⟩ = some (.int .i64 d.ag) := (HH.out _ hF).c 21 _ rfl
        obtain ⟨X0, X1⟩ := pow_int j (by omega) d.wt w0 w1
        by_cases hjl : (j : Int) < d.ag
        · have HX2 : Hid (2 * (d.wt * 2 ^ j) = d.wt * 2 ^ (j + 1)) := Lib.hid (by rw [Int.pow_succ, Int.mul_comm 2, Int.mul_assoc])
          obtain ⟨X, hX⟩ : ∃ X : Int, d.wt * 2 ^ j = X := ⟨_, rfl⟩
          rw [hX] at X0 X1 HX2 ⊢
          have HF := Lib.hid hF
          have hjb : (j : Int) ≤ 10 := by omega
          clear hF hX
          go_wp2_with fail
          go_roundw
          case rel => exact ⟨j + 1, by omega, by go_num, by rw [← HX2.out], HF.out⟩
          case measure => (simp [intOf]) <;> omega
        · have hja : (j : Int) = d.ag := by omega
          have HPW : Hid (d.wt * 2 ^ j = d.wt * 2 ^ d.ag.toNat) := Lib.hid (by rw [← hja]; rfl)
          have hge : ¬ (j : Int) < d.ag := hjl
          have x10 : wr.cell? ⟨g, 20, none⟩ = some (.int .i64 (d.tk + 1)) := (HH.out _ hF).c 20 _ rfl
          by_cases hlt : d.tk + 1 < d.wt * 2 ^ j
          · have HX : Hid (DOut w g (dTick d).2 (dTick d).1 (.returned (.slice none 0 0)) wr) := Lib.hid (by
              rw [HTk.out, if_pos (by rw [← HPW.out]; exact hlt)]
              exact ⟨OutP.none_ (HF1.out.trans (hF.mono (by simp))), HH.out _ hF⟩)
            obtain ⟨X, hX⟩ : ∃ X : Int, d.wt * 2 ^ j = X := ⟨_, rfl⟩
            rw [hX] at X0 X1 hlt ⊢
            clear hF hX hja HPW hjl
            go_wp2_with fail
            go_ret
            exact HX.out
          · have HLT := Lib.hid (show d.wt * 2 ^ d.ag.toNat ≤ d.tk + 1 from by rw [← HPW.out]; omega)
            have x12 : wr.cell? ⟨g, 8, none⟩ = some (.int .i64 d.rt) := (HH.out _ hF).c 8 _ rfl
            obtain ⟨X, hX⟩ : ∃ X : Int, d.wt * 2 ^ j = X := ⟨_, rfl⟩
            rw [hX] at X0 X1 hlt ⊢
            have HF := Lib.hid hF
            clear hF hX hja HPW hjl
            by_cases hrt : d.rt ≤ d.ag
            · go_wp2_with fail
              go_quiet (fail)
              obtain ⟨V1, hV1⟩ : ∃ W, wr.drewN nq = W := ⟨_, rfl⟩
              have hZ1 : Fr [] W1 V1 := by rw [← hV1]; exact HF.out.drewN nq
              rw [hV1]
              have hBv := HH.out _ hZ1
              have y10 := hBv.c 10 (.int .i64 d.st) rfl
              have f10 := hBv.fz 10
              have HX : Hid (DOut w g (dTick d).2 (dTick d).1 (.returned (.slice none 0 0)) (V1.setCell ⟨g, 10, none⟩ (.int .i64 4))) := Lib.hid (by
                rw [HTk.out, if_neg (Int.not_lt.2 HLT.out), if_pos hrt]
                refine ⟨OutP.none_ ((HF1.out.trans (hZ1.mono (by simp))).setCell (by simp) _), ?_⟩
                have := hBv.set 10 (.int .i64 4)
                simpa [dhC] using this)
              clear hV1 hZ1 hBv x10 x11 x12
              go_wp2_with fail
              go_ret
              exact HX.out
            · go_wp2_with fail
              go_quiet (fail)
              obtain ⟨V1, hV1⟩ : ∃ W, wr.drewN nq = W := ⟨_, rfl⟩
              have hZ1 : Fr [] W1 V1 := by rw [← hV1]; exact HF.out.drewN nq
              rw [hV1]
              have hBv := HH.out _ hZ1
              have y21 := hBv.c 21 (.int .i64 d.ag) rfl
              have f21 := hBv.fz 21
              have hB3 : Blk (V1.setCell ⟨g, 21, none⟩ (.int .i64 (d.ag + 1))) g (dhC { d with tk := d.tk + 1, ag := d.ag + 1 }) 254 := by
                have := hBv.set 21 (.int .i64 (d.ag + 1))
                simpa [dhC] using this
              have AK := Lib.hid (dask_di (d := { d with tk := d.tk + 1, ag := d.ag + 1 }) HST.out HDI.out.sv HDI.out.un HDI.out.ck hB3)
              have HF3 := Lib.hid ((HF1.out.trans (hZ1.mono (S' := [g]) (by simp))).setCell (p := ⟨g, 21, none⟩) (by simp) (.int .i64 (d.ag + 1)))
              clear hV1 hZ1 hBv hB3 x10 x11 x12
              go_wp2_with fail
              refine AK.out.mono ?_
              rintro e w2 ⟨⟨A, c, rfl, hrow, hF⟩, hB2⟩
              have HX : Hid (DOut w g (dTick d).2 (dTick d).1 (.returned (.slice A (dSayL d).length c)) w2) := Lib.hid (by
                rw [HTk.out, if_neg (Int.not_lt.2 HLT.out), if_neg (by omega)]
                exact DOut.later (show DOut _ g (dSayL d) { d with tk := 0, ag := d.ag + 1 } _ w2 from ⟨⟨A, c, rfl, hrow, hF⟩, hB2⟩) HF3.out)
              clear hrow hF hB2 AK
              go_wp2_with fail
              go_ret
              exact HX.out
  · unfold dTick
    rw [if_neg hst]
    have n0 : (d.st != 1) = true := by rw [bne_iff_ne]; exact fun e => hst (Or.inl e)
    have n4 : (d.st != 2) = true := by rw [bne_iff_ne]; exact fun e => hst (Or.inr e)
    have HX : Hid (DOut w g [] d (.returned (.slice none 0 0)) w) := Lib.hid ⟨OutP.none_ (Fr.refl _ _), hB⟩
    clear hst hB h
    go_enter Tryz.func55, Tryz.ntmps55
    go_wp2_with fail
    go_ret
    exact HX.out
set_option maxRecDepth 100000 in
set_option maxHeartbeats 8000000 in
theorem dstop_any (h : DI d) (hB : Blk w g (dhC d) 254) : Calls Tryz.prog 53 #[.pointer (some ⟨g, 0, none⟩)] w (DOut w g (dStop d).2 (dStop d).1) := by
  have hgl := hB.lt
  have HDI := Lib.hid h
  have HTp : Hid (dStop d = ({ d with st := 0 }, if d.st = 3 then frameL d.k d.m 167 d.ss [] else [])) := Lib.hid rfl
  obtain ⟨⟨m1, m2, m3, m4, m5, m6⟩, sv, un, rt, wt, st, ss, ⟨a1, a2, a3, a4, a5, a6⟩, ck, hc, tk, ag⟩ := d
  have HH : Hid (∀ W, Fr [] w W → Blk W g (dhC ⟨⟨m1, m2, m3, m4, m5, m6⟩, sv, un, rt, wt, st, ss, ⟨a1, a2, a3, a4, a5, a6⟩, ck, hc, tk, ag⟩) 254) := Lib.hid fun W hW => hW.blk hB (by simp)
  have HX : Hid (∀ W, Fr [] w W → (fun W => (W.cell? ⟨g, 10, none⟩ = some (.int .i64 st) ∧ W.cell? ⟨g, 11, none⟩ = some (.int .i64 ss) ∧ W.cell? ⟨g, 0, none⟩ = some (.int .u8 m1) ∧ W.cell? ⟨g, 1, none⟩ = some (.int .u8 m2) ∧ W.cell? ⟨g, 2, none⟩ = some (.int .u8 m3) ∧ W.cell? ⟨g, 3, none⟩ = some (.int .u8 m4) ∧ W.cell? ⟨g, 4, none⟩ = some (.int .u8 m5) ∧ W.cell? ⟨g, 5, none⟩ = some (.int .u8 m6) ∧ W.cell? ⟨g, 12, none⟩ = some (.int .u8 a1) ∧ W.cell? ⟨g, 13, none⟩ = some (.int .u8 a2) ∧ W.cell? ⟨g, 14, none⟩ = some (.int .u8 a3) ∧ W.cell? ⟨g, 15, none⟩ = some (.int .u8 a4) ∧ W.cell? ⟨g, 16, none⟩ = some (.int .u8 a5) ∧ W.cell? ⟨g, 17, none⟩ = some (.int .u8 a6)) ∧ Fr [] w W) W) := Lib.hid fun W hW => ⟨⟨(HH.out W hW).c 10 _ rfl, (HH.out W hW).c 11 _ rfl, (HH.out W hW).c 0 _ rfl, (HH.out W hW).c 1 _ rfl, (HH.out W hW).c 2 _ rfl, (HH.out W hW).c 3 _ rfl, (HH.out W hW).c 4 _ rfl, (HH.out W hW).c 5 _ rfl, (HH.out W hW).c 12 _ rfl, (HH.out W hW).c 13 _ rfl, (HH.out W hW).c 14 _ rfl, (HH.out W hW).c 15 _ rfl, (HH.out W hW).c 16 _ rfl, (HH.out W hW).c 17 _ rfl⟩, hW⟩
  clear hB h
  go_enter Tryz.func53, Tryz.ntmps53
  go_wp2_with fail
  refine wp_region_held_drew (S := (fun W => (W.cell? ⟨g, 10, none⟩ = some (.int .i64 st) ∧ W.cell? ⟨g, 11, none⟩ = some (.int .i64 ss) ∧ W.cell? ⟨g, 0, none⟩ = some (.int .u8 m1) ∧ W.cell? ⟨g, 1, none⟩ = some (.int .u8 m2) ∧ W.cell? ⟨g, 2, none⟩ = some (.int .u8 m3) ∧ W.cell? ⟨g, 3, none⟩ = some (.int .u8 m4) ∧ W.cell? ⟨g, 4, none⟩ = some (.int .u8 m5) ∧ W.cell? ⟨g, 5, none⟩ = some (.int .u8 m6) ∧ W.cell? ⟨g, 12, none⟩ = some (.int .u8 a1) ∧ W.cell? ⟨g, 13, none⟩ = some (.int .u8 a2) ∧ W.cell? ⟨g, 14, none⟩ = some (.int .u8 a3) ∧ W.cell? ⟨g, 15, none⟩ = some (.int .u8 a4) ∧ W.cell? ⟨g, 16, none⟩ = some (.int .u8 a5) ∧ W.cell? ⟨g, 17, none⟩ = some (.int .u8 a6)) ∧ Fr [] w W)) (by kernel_rfl) ?_ (fun hHeld => ?_)
  · (try dsimp only); exact HX.out _ (Fr.refl [] w).drew
  obtain ⟨v0, hv⟩ : ∃ X, w.drew = X := ⟨_, rfl⟩
  have hF0 : Fr [] w v0 := by rw [← hv]; exact (Fr.refl [] w).drew
  rw [hv] at hHeld ⊢
  clear hv
  refine take_yes 0 6 rfl rfl (by kernel_rfl) (by kernel_rfl) (by kernel_rfl) (fun _ _ _ h => h) (by rfl) (by assumption) (v := ?_) ?_ ?_
  rotate_left
  · intro w hSw; (try dsimp only at hSw); go_simp; (try with_reducible rfl)
  try simp only [Act.put, List.setIfInBounds_toArray, List.set_cons_zero, List.set_cons_succ]
  refine take_yes 1 7 rfl rfl (by kernel_rfl) (by kernel_rfl) (by kernel_rfl) (fun _ _ _ h => h) (by rfl) (by assumption) (v := ?_) ?_ ?_
  rotate_left
  · intro w hSw; (try dsimp only at hSw); go_simp; (try with_reducible rfl)
  try simp only [Act.put, List.setIfInBounds_toArray, List.set_cons_zero, List.set_cons_succ]
  refine take_yes 2 8 rfl rfl (by kernel_rfl) (by kernel_rfl) (by kernel_rfl) (fun _ _ _ h => h) (by rfl) (by assumption) (v := ?_) ?_ ?_
  rotate_left
  · intro w hSw; (try dsimp only at hSw); go_simp; (try with_reducible rfl)
  try simp only [Act.put, List.setIfInBounds_toArray, List.set_cons_zero, List.set_cons_succ]
  refine take_yes 3 9 rfl rfl (by kernel_rfl) (by kernel_rfl) (by kernel_rfl) (fun _ _ _ h => h) (by rfl) (by assumption) (v := .int .i64 st) ?_ ?_
  · intro w hSw; (try dsimp only at hSw); go_simp
  try simp only [Act.put, List.setIfInBounds_toArray, List.set_cons_zero, List.set_cons_succ]
  refine take_yes 4 10 rfl rfl (by kernel_rfl) (by kernel_rfl) (by kernel_rfl) (fun _ _ _ h => h) (by rfl) (by assumption) (v := ?_) ?_ ?_
  rotate_left
  · intro w hSw; (try dsimp only at hSw); go_simp; (try with_reducible rfl)
  try simp only [Act.put, List.setIfInBounds_toArray, List.set_cons_zero, List.set_cons_succ]
  refine take_yes 5 11 rfl rfl (by kernel_rfl) (by kernel_rfl) (by kernel_rfl) (fun _ _ _ h => h) (by rfl) (by assumption) (v := ?_) ?_ ?_
  rotate_left
  · intro w hSw; (try dsimp only at hSw); go_simp; (try with_reducible rfl)
  try simp only [Act.put, List.setIfInBounds_toArray, List.set_cons_zero, List.set_cons_succ]
  refine take_yes 6 12 rfl rfl (by kernel_rfl) (by kernel_rfl) (by kernel_rfl) (fun _ _ _ h => h) (by rfl) (by assumption) (v := ?_) ?_ ?_
  rotate_left
  · intro w hSw; (try dsimp only at hSw); go_simp; (try with_reducible rfl)
  try simp only [Act.put, List.setIfInBounds_toArray, List.set_cons_zero, List.set_cons_succ]
  refine take_yes 7 13 rfl rfl (by kernel_rfl) (by kernel_rfl) (by kernel_rfl) (fun _ _ _ h => h) (by rfl) (by assumption) (v := .agg #[.int .u8 a1, .int .u8 a2, .int .u8 a3, .int .u8 a4, .int .u8 a5, .int .u8 a6]) ?_ ?_
  · intro w hSw; (try dsimp only at hSw); go_simp
  try simp only [Act.put, List.setIfInBounds_toArray, List.set_cons_zero, List.set_cons_succ]
  refine take_yes 8 14 rfl rfl (by kernel_rfl) (by kernel_rfl) (by kernel_rfl) (fun _ _ _ h => h) (by rfl) (by assumption) (v := ?_) ?_ ?_
  rotate_left
  · intro w hSw; (try dsimp only at hSw); go_simp; (try with_reducible rfl)
  try simp only [Act.put, List.setIfInBounds_toArray, List.set_cons_zero, List.set_cons_succ]
  refine take_yes 9 15 rfl rfl (by kernel_rfl) (by kernel_rfl) (by kernel_rfl) (fun _ _ _ h => h) (by rfl) (by assumption) (v := ?_) ?_ ?_
  rotate_left
  · intro w hSw; (try dsimp only at hSw); go_simp; (try with_reducible rfl)
  try simp only [Act.put, List.setIfInBounds_toArray, List.set_cons_zero, List.set_cons_succ]
  refine take_yes 10 16 rfl rfl (by kernel_rfl) (by kernel_rfl) (by kernel_rfl) (fun _ _ _ h => h) (by rfl) (by assumption) (v := ?_) ?_ ?_
  rotate_left
  · intro w hSw; (try dsimp only at hSw); go_simp; (try with_reducible rfl)
  try simp only [Act.put, List.setIfInBounds_toArray, List.set_cons_zero, List.set_cons_succ]
  refine take_yes 11 17 rfl rfl (by kernel_rfl) (by kernel_rfl) (by kernel_rfl) (fun _ _ _ h => h) (by rfl) (by assumption) (v := .int .i64 ss) ?_ ?_
  · intro w hSw; (try dsimp only at hSw); go_simp
  try simp only [Act.put, List.setIfInBounds_toArray, List.set_cons_zero, List.set_cons_succ]
  refine wpAnyH_ready (rs := [12]) (by kernel_rfl) (by simp) ?_
  refine AllReadyH.cons (o := _) rfl (fun K hK => ?_) AllReadyH.nil
  go_simp
  (try go_wp2_with fail)
  refine hK.out _ _ ?_ (fun hHeld => ?_)
  · (try dsimp only); exact HX.out _ (hF0.alloc _)
  clear hK K
  try simp only [Act.put, List.setIfInBounds_toArray, List.set_cons_zero, List.set_cons_succ]
  have hNb : Blk (v0.alloc (.cells #[.int .u8 0, .int .u8 0, .int .u8 0, .int .u8 0, .int .u8 0, .int .u8 0] 104 (0, 0))) v0.heap.size #[.int .u8 0, .int .u8 0, .int .u8 0, .int .u8 0, .int .u8 0, .int .u8 0] 104 := Blk.new _ _ _
  have hF1 := hF0.alloc (.cells #[.int .u8 0, .int .u8 0, .int .u8 0, .int .u8 0, .int .u8 0, .int .u8 0] 104 (0, 0))
  obtain ⟨v1, hV⟩ : ∃ X, v0.alloc (.cells #[.int .u8 0, .int .u8 0, .int .u8 0, .int .u8 0, .int .u8 0, .int .u8 0] 104 (0, 0)) = X := ⟨_, rfl⟩
  have hqs : w.heap.size ≤ v0.heap.size := hF0.size
  obtain ⟨q, hq⟩ : ∃ b, v0.heap.size = b := ⟨_, rfl⟩
  rw [hV] at hNb hHeld hF1 ⊢
  rw [hq] at hNb hqs ⊢
  clear hV hq hF0
  refine take_yes 13 3 rfl rfl (by kernel_rfl) (by kernel_rfl) (by kernel_rfl) (fun _ _ _ h => h) (by rfl) (by assumption) (v := ?_) ?_ ?_
  rotate_left
  · intro w hSw; (try dsimp only at hSw); go_simp; (try with_reducible rfl)
  try simp only [Act.put, List.setIfInBounds_toArray, List.set_cons_zero, List.set_cons_succ]
  refine wpAnyH_ready (rs := [14]) (by kernel_rfl) (by simp) ?_
  refine AllReadyH.cons (o := _) rfl (fun K hK => ?_) AllReadyH.nil
  rw [if_pos (by rfl)]
  refine wp_store_mid 104 (.tmp 4) (.tmp 13) rfl q 0 #[.int .u8 a1, .int .u8 a2, .int .u8 a3, .int .u8 a4, .int .u8 a5, .int .u8 a6] rfl rfl (hNb.there _ (by exact Nat.le_refl _)) (by kernel_rfl) (by simp [Value.oneCell']) ?_
  have hN7 := hNb.setCells #[.int .u8 a1, .int .u8 a2, .int .u8 a3, .int .u8 a4, .int .u8 a5, .int .u8 a6] rfl
  have hF7 : Fr [] w (v1.setCells q 0 (#[.int .u8 a1, .int .u8 a2, .int .u8 a3, .int .u8 a4, .int .u8 a5, .int .u8 a6] : Array Value).toList) := hF1.fresh1 ((Fr.refl [q] v1).setCells _ _ _ (Or.inr (by simp))) hqs
  obtain ⟨v2, hw7⟩ : ∃ X, v1.setCells q 0 (#[.int .u8 a1, .int .u8 a2, .int .u8 a3, .int .u8 a4, .int .u8 a5, .int .u8 a6] : Array Value).toList = X := ⟨_, rfl⟩
  rw [hw7] at hN7 hF7 ⊢
  refine hK.out _ _ ?_ (fun hHeld => ?_)
  · (try dsimp only); exact HX.out _ hF7
  clear hK K
  try simp only [Act.put, List.setIfInBounds_toArray, List.set_cons_zero, List.set_cons_succ]
  refine take_yes 15 5 rfl rfl (by kernel_rfl) (by kernel_rfl) (by kernel_rfl) (fun _ _ _ h => h) (by rfl) (by assumption) (v := ?_) ?_ ?_
  rotate_left
  · intro w hSw; (try dsimp only at hSw); go_simp; (try with_reducible rfl)
  try simp only [Act.put, List.setIfInBounds_toArray, List.set_cons_zero, List.set_cons_succ]
  refine wpAnyH_done (by kernel_rfl) ?_ _
  clear hw7 hNb hF1 hqs hHeld
  have hBv := HH.out _ hF7
  have y10 := hBv.c 10 (.int .i64 st) rfl
  have f10 := hBv.fz 10
  have hB3 : Blk (v2.setCell ⟨g, 10, none⟩ (.int .i64 0)) g (dhC ⟨⟨m1, m2, m3, m4, m5, m6⟩, sv, un, rt, wt, 0, ss, ⟨a1, a2, a3, a4, a5, a6⟩, ck, hc, tk, ag⟩) 254 := by
    have := hBv.set 10 (.int .i64 0)
    simpa [dhC] using this
  have hne : q ≠ g := fun e => by subst e; exact hN7.neT hBv (by decide) rfl
  have hN8 : Blk (v2.setCell ⟨g, 10, none⟩ (.int .i64 0)) q #[.int .u8 a1, .int .u8 a2, .int .u8 a3, .int .u8 a4, .int .u8 a5, .int .u8 a6] 104 := ((Fr.refl [g] v2).setCell (p := ⟨g, 10, none⟩) (by simp) (.int .i64 0)).blk hN7 (by simpa using hne)
  have hF8 := (hF7.mono (S' := [g]) (by simp)).setCell (p := ⟨g, 10, none⟩) (by simp) (.int .i64 0)
  obtain ⟨V, hV⟩ : ∃ V, v2.setCell ⟨g, 10, none⟩ (.int .i64 0) = V := ⟨_, rfl⟩
  rw [hV] at hB3 hN8 hF8
  have HF8 := Lib.hid hF8
  have HB3 := Lib.hid hB3
  by_cases hst : st = 3
  · obtain ⟨s0, s1⟩ := HDI.out.ss hst
    simp only at s0 s1
    subst hst
    have HTA : TgAt V none [] := fun i t hi => by simp at hi
    have SD : Hid (∀ W, Fr [] V W → Calls Tryz.prog 200 #[.agg #[.int .u8 m1, .int .u8 m2, .int .u8 m3, .int .u8 m4, .int .u8 m5, .int .u8 m6], .agg #[.int .u8 a1, .int .u8 a2, .int .u8 a3, .int .u8 a4, .int .u8 a5, .int .u8 a6], .int .i64 167, .int .i64 ss, .slice none 0 0] W (OutP W (frameL ⟨a1, a2, a3, a4, a5, a6⟩ ⟨m1, m2, m3, m4, m5, m6⟩ 167 ss []) [])) := Lib.hid fun W hW => dsend_out (l := []) ⟨m1, m2, m3, m4, m5, m6⟩ ⟨a1, a2, a3, a4, a5, a6⟩ 167 ss (HTA.fr0 hW) (fun t ht => by cases ht) (by simp) (Nat.le_refl _) (by unfold maxLen; omega) (by simp [tgsB]) (by decide) (by decide) s0 s1
    have HY : Hid (∀ W, Fr [] V W → (fun W => (W.cell? ⟨g, 0, none⟩ = some (.int .u8 m1) ∧ W.cell? ⟨g, 1, none⟩ = some (.int .u8 m2) ∧ W.cell? ⟨g, 2, none⟩ = some (.int .u8 m3) ∧ W.cell? ⟨g, 3, none⟩ = some (.int .u8 m4) ∧ W.cell? ⟨g, 4, none⟩ = some (.int .u8 m5) ∧ W.cell? ⟨g, 5, none⟩ = some (.int .u8 m6) ∧ W.cell? ⟨q, 0, none⟩ = some (.int .u8 a1) ∧ W.cell? ⟨q, 1, none⟩ = some (.int .u8 a2) ∧ W.cell? ⟨q, 2, none⟩ = some (.int .u8 a3) ∧ W.cell? ⟨q, 3, none⟩ = some (.int .u8 a4) ∧ W.cell? ⟨q, 4, none⟩ = some (.int .u8 a5) ∧ W.cell? ⟨q, 5, none⟩ = some (.int .u8 a6)) ∧ Fr [] V W) W) := Lib.hid fun W hW => ⟨⟨(hW.blk hB3 (by simp)).c 0 _ rfl, (hW.blk hB3 (by simp)).c 1 _ rfl, (hW.blk hB3 (by simp)).c 2 _ rfl, (hW.blk hB3 (by simp)).c 3 _ rfl, (hW.blk hB3 (by simp)).c 4 _ rfl, (hW.blk hB3 (by simp)).c 5 _ rfl, (hW.blk hN8 (by simp)).c 0 _ rfl, (hW.blk hN8 (by simp)).c 1 _ rfl, (hW.blk hN8 (by simp)).c 2 _ rfl, (hW.blk hN8 (by simp)).c 3 _ rfl, (hW.blk hN8 (by simp)).c 4 _ rfl, (hW.blk hN8 (by simp)).c 5 _ rfl⟩, hW⟩
    clear hBv hB3 hN7 hN8 hF7 hF8 HTA s0 s1 HX HH hgl hne
    go_wp2_with fail
    try rw [hV]
    clear hV y10 f10
    refine wp_region_held_drew (S := (fun W => (W.cell? ⟨g, 0, none⟩ = some (.int .u8 m1) ∧ W.cell? ⟨g, 1, none⟩ = some (.int .u8 m2) ∧ W.cell? ⟨g, 2, none⟩ = some (.int .u8 m3) ∧ W.cell? ⟨g, 3, none⟩ = some (.int .u8 m4) ∧ W.cell? ⟨g, 4, none⟩ = some (.int .u8 m5) ∧ W.cell? ⟨g, 5, none⟩ = some (.int .u8 m6) ∧ W.cell? ⟨q, 0, none⟩ = some (.int .u8 a1) ∧ W.cell? ⟨q, 1, none⟩ = some (.int .u8 a2) ∧ W.cell? ⟨q, 2, none⟩ = some (.int .u8 a3) ∧ W.cell? ⟨q, 3, none⟩ = some (.int .u8 a4) ∧ W.cell? ⟨q, 4, none⟩ = some (.int .u8 a5) ∧ W.cell? ⟨q, 5, none⟩ = some (.int .u8 a6)) ∧ Fr [] V W)) (by kernel_rfl) ?_ (fun hHeld => ?_)
    · (try dsimp only); exact HY.out _ (Fr.refl [] V).drew
    refine take_yes 0 23 rfl rfl (by kernel_rfl) (by kernel_rfl) (by kernel_rfl) (fun _ _ _ h => h) (by rfl) (by assumption) (v := ?_) ?_ ?_
    rotate_left
    · intro w hSw; (try dsimp only at hSw); go_simp; (try with_reducible rfl)
    try simp only [Act.put, List.setIfInBounds_toArray, List.set_cons_zero, List.set_cons_succ]
    refine take_yes 1 24 rfl rfl (by kernel_rfl) (by kernel_rfl) (by kernel_rfl) (fun _ _ _ h => h) (by rfl) (by assumption) (v := ?_) ?_ ?_
    rotate_left
    · intro w hSw; (try dsimp only at hSw); go_simp; (try with_reducible rfl)
    try simp only [Act.put, List.setIfInBounds_toArray, List.set_cons_zero, List.set_cons_succ]
    refine take_yes 2 25 rfl rfl (by kernel_rfl) (by kernel_rfl) (by kernel_rfl) (fun _ _ _ h => h) (by rfl) (by assumption) (v := ?_) ?_ ?_
    rotate_left
    · intro w hSw; (try dsimp only at hSw); go_simp; (try with_reducible rfl)
    try simp only [Act.put, List.setIfInBounds_toArray, List.set_cons_zero, List.set_cons_succ]
    refine take_yes 3 26 rfl rfl (by kernel_rfl) (by kernel_rfl) (by kernel_rfl) (fun _ _ _ h => h) (by rfl) (by assumption) (v := .agg #[.int .u8 m1, .int .u8 m2, .int .u8 m3, .int .u8 m4, .int .u8 m5, .int .u8 m6]) ?_ ?_
    · intro w hSw; (try dsimp only at hSw); go_simp
    try simp only [Act.put, List.setIfInBounds_toArray, List.set_cons_zero, List.set_cons_succ]
    refine take_yes 4 27 rfl rfl (by kernel_rfl) (by kernel_rfl) (by kernel_rfl) (fun _ _ _ h => h) (by rfl) (by assumption) (v := .agg #[.int .u8 a1, .int .u8 a2, .int .u8 a3, .int .u8 a4, .int .u8 a5, .int .u8 a6]) ?_ ?_
    · intro w hSw; (try dsimp only at hSw); go_simp
    try simp only [Act.put, List.setIfInBounds_toArray, List.set_cons_zero, List.set_cons_succ]
    refine take_yes 5 28 rfl rfl (by kernel_rfl) (by kernel_rfl) (by kernel_rfl) (fun _ _ _ h => h) (by rfl) (by assumption) (v := ?_) ?_ ?_
    rotate_left
    · intro w hSw; (try dsimp only at hSw); go_simp; (try with_reducible rfl)
    try simp only [Act.put, List.setIfInBounds_toArray, List.set_cons_zero, List.set_cons_succ]
    refine wpAnyH_ready (rs := [6]) (by kernel_rfl) (by simp) ?_
    refine AllReadyH.cons (o := _) rfl (fun K hK => ?_) AllReadyH.nil
    go_simp
    have HSZ := Lib.hid (And.right hHeld).size
    refine (SD.out _ (And.right hHeld)).mono ?_
    rintro e v3 ⟨A9, c9, rfl, hrow, hF6⟩
    (try go_wp2_with fail)
    refine hK.out _ _ ?_ (fun hHeld => ?_)
    · (try dsimp only); refine HY.out _ (Fr.trans ?_ hF6); exact And.right (by assumption)
    clear hK K
    try simp only [Act.put, List.setIfInBounds_toArray, List.set_cons_zero, List.set_cons_succ]
    refine take_yes 7 2 rfl rfl (by kernel_rfl) (by kernel_rfl) (by kernel_rfl) (fun _ _ _ h => h) (by rfl) (by assumption) (v := ?_) ?_ ?_
    rotate_left
    · intro w hSw; (try dsimp only at hSw); go_simp; (try with_reducible rfl)
    try simp only [Act.put, List.setIfInBounds_toArray, List.set_cons_zero, List.set_cons_succ]
    refine wpAnyH_done (by kernel_rfl) ?_ _
    have HZ : Hid (Fr [] V v3) := Lib.hid (And.right (by assumption))
    have HR := Lib.hid (And.intro hrow hF6)
    clear hrow hF6
    go_wp2_with fail
    go_ret
    rw [HTp.out]
    refine ⟨?_, HZ.out.blk HB3.out (by simp)⟩
    (try rw [if_pos rfl])
    (try simp only [if_true])
    exact ⟨A9, c9, rfl, ⟨HR.out.1.1, HR.out.1.2.imp id fun ⟨x, cap', cur, z1, z2, z3⟩ => ⟨x, cap', cur, z1, Nat.le_trans HF8.out.size (Nat.le_trans HSZ.out z2), z3⟩⟩, HF8.out.trans (HZ.out.mono (S' := [g]) (by simp))⟩
  · have n3 : (st != 3) = true := by rw [bne_iff_ne]; exact hst
    have HZ : Hid (DOut w g (dStop ⟨⟨m1, m2, m3, m4, m5, m6⟩, sv, un, rt, wt, st, ss, ⟨a1, a2, a3, a4, a5, a6⟩, ck, hc, tk, ag⟩).2 (dStop ⟨⟨m1, m2, m3, m4, m5, m6⟩, sv, un, rt, wt, st, ss, ⟨a1, a2, a3, a4, a5, a6⟩, ck, hc, tk, ag⟩).1 (.returned (.slice none 0 0)) V) := Lib.hid (by
      rw [HTp.out]
      refine ⟨?_, hB3⟩
      rw [if_neg hst]
      exact OutP.none_ hF8)
    clear hBv hB3 hN7 hN8 hF7 hF8 HX HH hgl hne hst
    go_wp2_with fail
    try rw [hV]
    go_ret
    exact HZ.out
end
end Go.Proofs.YtfchbppfbepelaaGreat
