/- StoreShuts, walked. -/
import Derived.Test.YtpljdnocdhppmaaLawS1
namespace Go.Proofs.Ytpljdnocdhppmaa
open Go.RowKit Go.Maps
set_option linter.unusedVariables false

def kS (time : Int) (i : Int) : Kn := ⟨[112], i, if i = 0 then 0 else time⟩
theorem min_max (i : Int) (h : i ≤ 1000) : min (i + 1) 2147483647 = i + 1 := by omega
section
variable {lim calm time i : Int}
theorem kS_ok (i0 : 0 ≤ i) (i1 : i ≤ 1000) (t0 : 0 ≤ time) (t1 : time ≤ 1099511627776) : KnOk (kS time i) := by
  unfold KnOk kS
  simp only
  split <;> omega
theorem sh_step (i0 : 0 ≤ i) (hi : i < lim) (l1 : lim ≤ 100) : tryE lim calm time (fun k => decide (k.s = [119, 114, 111, 110, 103])) (some (kS time i)) = 30 ∧ tryK lim calm time (fun k => decide (k.s = [119, 114, 111, 110, 103])) (kS time i) = kS time (i + 1) := by
  have hs : shutB lim calm (kS time i) time = false := by unfold shutB; exact decide_eq_false (by show ¬ (1 ≤ lim ∧ lim ≤ i ∧ _); omega)
  have ho : decide ((kS time i).s = [119, 114, 111, 110, 103]) = false := by show decide (([112] : List UInt8) = _) = false; rfl
  simp only [tryE, tryK, hs, ho]
  refine ⟨by simp, ?_⟩
  simp only [badK, kS, Bool.false_eq_true, if_false]
  rw [min_max i (by omega), if_neg (by omega)]
theorem sh_shut (l0 : 1 ≤ lim) (c0 : 1 ≤ calm) (t : Int) (h0 : time ≤ t) (h1 : t < time + calm) (s : List UInt8) : tryE lim calm t (fun k => decide (k.s = s)) (some (kS time lim)) = 20 ∧ tryK lim calm t (fun k => decide (k.s = s)) (kS time lim) = kS time lim := by
  have hs : shutB lim calm (kS time lim) t = true := by
    unfold shutB kS
    refine decide_eq_true ?_
    simp only
    rw [if_neg (by omega)]
    refine ⟨l0, by omega, Or.inr ?_⟩
    omega
  simp only [tryE, tryK, hs]
  exact ⟨by simp, by simp⟩
theorem sh_open (l0 : 1 ≤ lim) (c0 : 1 ≤ calm) : shutB lim calm (kS time lim) (time + calm) = false := by
  unfold shutB kS
  refine decide_eq_false ?_
  simp only
  rw [if_neg (by omega)]
  omega
theorem sh_yes (l0 : 1 ≤ lim) (c0 : 1 ≤ calm) : tryE lim calm (time + calm) (fun k => decide (k.s = [112])) (some (kS time lim)) = 0 ∧ tryK lim calm (time + calm) (fun k => decide (k.s = [112])) (kS time lim) = ⟨[112], 0, time⟩ := by
  have ho : decide ((kS time lim).s = [112]) = true := by show decide (([112] : List UInt8) = _) = true; rfl
  simp only [tryE, tryK, sh_open l0 c0, ho]
  refine ⟨by simp, ?_⟩
  simp only [okK, kS, Bool.false_eq_true, if_false, if_true]
  rw [if_neg (by omega)]
theorem sh_yes2 (l0 : 1 ≤ lim) : tryE lim calm time (fun k => decide (k.s = [112])) (some ⟨[112], 0, time⟩) = 0 ∧ tryK lim calm time (fun k => decide (k.s = [112])) ⟨[112], 0, time⟩ = ⟨[112], 0, time⟩ := by
  have hs : shutB lim calm ⟨[112], 0, time⟩ time = false := by unfold shutB; exact decide_eq_false (by simp only; omega)
  simp [tryE, tryK, hs, okK]
theorem sh_no (l0 : 1 ≤ lim) (l1 : lim ≤ 100) (c0 : 1 ≤ calm) : tryE lim calm (time + calm) (fun k => decide (k.s = [113])) (some (kS time lim)) = 30 ∧ tryK lim calm (time + calm) (fun k => decide (k.s = [113])) (kS time lim) = ⟨[112], lim + 1, time + calm⟩ := by
  have ho : decide ((kS time lim).s = [113]) = false := by show decide (([112] : List UInt8) = _) = false; rfl
  simp only [tryE, tryK, sh_open l0 c0, ho]
  refine ⟨by simp, ?_⟩
  simp only [badK, kS, Bool.false_eq_true, if_false]
  rw [min_max lim (by omega)]
theorem sh_no2 (l0 : 1 ≤ lim) (c0 : 1 ≤ calm) (t : Int) : tryE lim calm t (fun k => decide (k.s = [112])) (some ⟨[112], lim + 1, t⟩) = 20 ∧ tryK lim calm t (fun k => decide (k.s = [112])) ⟨[112], lim + 1, t⟩ = ⟨[112], lim + 1, t⟩ := by
  have hs : shutB lim calm ⟨[112], lim + 1, t⟩ t = true := by
    unfold shutB
    refine decide_eq_true ⟨l0, by simp only; omega, Or.inr ?_⟩
    simp only
    omega
  simp [tryE, tryK, hs]
end
set_option maxRecDepth 100000 in
set_option maxHeartbeats 4000000 in
theorem shuts_small (w : World) (lim calm time : Int) (right : Bool) (l0 : 1 ≤ lim) (l1 : lim ≤ 100) (c0 : 1 ≤ calm) (c1 : calm ≤ 1000) (t0 : 0 ≤ time) (t1 : time ≤ 1099511627776) :
    Calls Try.prog 6 #[.int .i64 lim, .int .i64 calm, .int .i64 time, .bool right] w fun e w' => e = .returned (.bool true) ∧ Below w.heap.size w w' := by
  have P1 := Lib.hid (snew_ok (w := w) (lim := lim) (calm := calm) (by omega) (by omega) (by omega) (by omega))
  go_enter Try.func6, Try.ntmps6
  go_wp2_with fail
  refine P1.out.mono ?_
  rintro e w1 ⟨g, b, rfl, hg, hb, hS1, hF1⟩
  have HS1 := Lib.hid (one_new (who := ([97], [])) [97] [112] (by decide) (by decide) (by decide) (by decide) hS1)
  clear hS1 P1
  go_wp2_with fail
  refine HS1.out.mono ?_
  rintro e w2 ⟨x, rfl, hx, hS2, hF2⟩
  have hx' : w.heap.size ≤ x := by have := hF1.size; omega
  have hF3 : Fr [] w w2 := hF1.sub hF2 (fun y hy => by simp at hy; subst hy; exact Or.inr hb)
  have hS3 : One w2 g b x lim calm ([97], []) (kS time 0) := hS2
  have HX := Lib.hid fun (y : Nat) (hy : y ∈ [x]) => show y ∈ ([] : List Nat) ∨ w.heap.size ≤ y by simp at hy; subst hy; exact Or.inr hx'
  clear HS1 hF1 hF2 hS2
  go_wp2
  go_loopw [11] (fun iv wr => ∃ i : Nat, (i : Int) ≤ lim ∧ iv = .int .i64 i ∧ One wr g b x lim calm ([97], []) (kS time i) ∧ Fr [] w wr) (fun iv _ => (lim - intOf iv).toNat)
  case atStart => exact ⟨0, by omega, rfl, hS3, hF3⟩
  case round =>
    clear hS3 hF3
    obtain ⟨i, hi, rfl, hS, hF⟩ := hrel
    by_cases hlt : (i : Int) < lim
    · obtain ⟨e1, e2⟩ := sh_step (calm := calm) (time := time) (show (0 : Int) ≤ i by omega) hlt l1
      have HP := Lib.hid (one_pap (t := time) (k := kS time i) [97] [119, 114, 111, 110, 103] (by decide) (by decide) (by decide) hS (kS_ok (by omega) (by omega) t0 t1) (show ([112] : List UInt8).length ≤ 60 by decide) (by omega) (by omega) (by omega) c1 30 _ e1 e2)
      have hi100 : (i : Int) ≤ 100 := by omega
      clear e1 e2 hS
      go_wp2_with fail
      refine HP.out.mono ?_
      rintro e w5 ⟨rfl, hS5, hG⟩
      have hF5 := hF.sub hG HX.out
      have HW := Lib.hid (one_wrong [97] (by decide) (by decide) hS5)
      clear HP hG hF
      go_wp2_with fail
      refine HW.out.mono ?_
      rintro e w6 ⟨rfl, hG⟩
      have hS6 := hS5.fr0 hG
      have hF6 := hF5.trans hG
      have HS6 := Lib.hid hS6
      have hks : (kS time ((i : Int) + 1)).wr = (i : Int) + 1 := rfl
      clear HW hG hF5 hS5 hS6
      go_wp2
      go_roundw
      case rel => exact ⟨i + 1, by omega, by go_num, HS6.out, hF6⟩
      case measure => (simp [intOf]) <;> omega
    · have hil : (i : Int) = lim := by omega
      have hge : ¬ (i : Int) < lim := hlt
      rw [hil] at hS
      have hS4 := hS
      have hF4 := hF
      clear hil hi hlt hS hF
      have HP := Lib.hid (one_pap (t := time) (k := kS time lim) [97] [112] (by decide) (by decide) (by decide) hS4 (kS_ok (by omega) (by omega) t0 t1) (show ([112] : List UInt8).length ≤ 60 by decide) (by omega) (by omega) (by omega) c1 20 _ (sh_shut l0 c0 time (by omega) (by omega) [112]).1 (sh_shut l0 c0 time (by omega) (by omega) [112]).2)
      clear hS4
      go_wp2_with fail
      refine HP.out.mono ?_
      rintro e w5 ⟨rfl, hS5, hG⟩
      have hF5 := hF4.sub hG HX.out
      clear HP hG hF4
      have HP := Lib.hid (one_pap (t := time + calm - 1) (k := kS time lim) [97] [112] (by decide) (by decide) (by decide) hS5 (kS_ok (by omega) (by omega) t0 t1) (show ([112] : List UInt8).length ≤ 60 by decide) (by omega) (by omega) (by omega) c1 20 _ (sh_shut l0 c0 (time + calm - 1) (by omega) (by omega) [112]).1 (sh_shut l0 c0 (time + calm - 1) (by omega) (by omega) [112]).2)
      clear hS5
      go_wp2_with fail
      refine HP.out.mono ?_
      rintro e w6 ⟨rfl, hS6, hG⟩
      have hF6 := hF5.sub hG HX.out
      clear HP hG hF5
      have hkl : (kS time lim).wr = lim := rfl
      have HW := Lib.hid (one_wrong [97] (by decide) (by decide) hS6)
      go_wp2_with fail
      refine HW.out.mono ?_
      rintro e w7 ⟨rfl, hG⟩
      have hS7 := hS6.fr0 hG
      have hF7 := hF6.trans hG
      clear HW hG hF6 hS6
      cases right with
      | true =>
        go_wp2_with fail
        refine (alive15 _).mono ?_
        rintro e w8 ⟨rfl, hG⟩
        have hS8 := hS7.fr0 hG
        have hF8 := hF7.trans hG
        clear hG hF7 hS7
        have HP := Lib.hid (one_pap (t := time + calm) (k := kS time lim) [97] [112] (by decide) (by decide) (by decide) hS8 (kS_ok (by omega) (by omega) t0 t1) (show ([112] : List UInt8).length ≤ 60 by decide) (by omega) (by omega) (by omega) c1 0 _ (sh_yes l0 c0).1 (sh_yes l0 c0).2)
        clear hS8
        go_wp2_with fail
        refine HP.out.mono ?_
        rintro e w9 ⟨rfl, hS9, hG⟩
        have hF9 := hF8.sub hG HX.out
        clear HP hG hF8
        have HW := Lib.hid (one_wrong [97] (by decide) (by decide) hS9)
        go_wp2_with fail
        refine HW.out.mono ?_
        rintro e w10 ⟨rfl, hG⟩
        have hS10 := hS9.fr0 hG
        have hF10 := hF9.trans hG
        clear HW hG hF9 hS9
        have HP := Lib.hid (one_pap (t := time) (k := ⟨[112], 0, time⟩) [97] [112] (by decide) (by decide) (by decide) hS10 (by unfold KnOk; simp only; omega) (show ([112] : List UInt8).length ≤ 60 by decide) (by omega) (by omega) (by omega) c1 0 _ (sh_yes2 l0).1 (sh_yes2 l0).2)
        clear hS10
        go_wp2_with fail
        refine HP.out.mono ?_
        rintro e w11 ⟨rfl, hS11, hG⟩
        have hF11 := hF10.sub hG HX.out
        clear HP hG hF10
        go_wp2
        go_ret
        exact ⟨rfl, hF11.below (Nat.le_refl _) (by simp)⟩
      | false =>
        go_wp2_with fail
        refine (alive15 _).mono ?_
        rintro e w8 ⟨rfl, hG⟩
        have hS8 := hS7.fr0 hG
        have hF8 := hF7.trans hG
        clear hG hF7 hS7
        have HP := Lib.hid (one_pap (t := time + calm) (k := kS time lim) [97] [113] (by decide) (by decide) (by decide) hS8 (kS_ok (by omega) (by omega) t0 t1) (show ([112] : List UInt8).length ≤ 60 by decide) (by omega) (by omega) (by omega) c1 30 _ (sh_no l0 l1 c0).1 (sh_no l0 l1 c0).2)
        clear hS8
        go_wp2_with fail
        refine HP.out.mono ?_
        rintro e w9 ⟨rfl, hS9, hG⟩
        have hF9 := hF8.sub hG HX.out
        clear HP hG hF8
        have HP := Lib.hid (one_pap (t := time + calm) (k := ⟨[112], lim + 1, time + calm⟩) [97] [112] (by decide) (by decide) (by decide) hS9 (by unfold KnOk; simp only; omega) (show ([112] : List UInt8).length ≤ 60 by decide) (by omega) (by omega) (by omega) c1 20 _ (sh_no2 l0 c0 (time + calm)).1 (sh_no2 l0 c0 (time + calm)).2)
        clear hS9
        go_wp2_with fail
        refine HP.out.mono ?_
        rintro e w10 ⟨rfl, hS10, hG⟩
        have hF10 := hF9.sub hG HX.out
        clear HP hG hF9
        have HW := Lib.hid (one_wrong [97] (by decide) (by decide) hS10)
        go_wp2_with fail
        refine HW.out.mono ?_
        rintro e w11 ⟨rfl, hG⟩
        have hS11 := hS10.fr0 hG
        have hF11 := hF10.trans hG
        clear HW hG hF10 hS10
        go_wp2
        go_ret
        exact ⟨rfl, hF11.below (Nat.le_refl _) (by simp)⟩
set_option maxRecDepth 100000 in
set_option maxHeartbeats 4000000 in
theorem storeShuts_walk (w : World) (lim : Int) (l0 : -9223372036854775808 ≤ lim) (l1 : lim ≤ 9223372036854775807) (calm : Int) (c0 : -9223372036854775808 ≤ calm) (c1 : calm ≤ 9223372036854775807) (time : Int) (t0 : -9223372036854775808 ≤ time) (t1 : time ≤ 9223372036854775807) (right : Bool) :
    Calls Try.prog 6 #[.int .i64 lim, .int .i64 calm, .int .i64 time, .bool right] w fun e w' => e = .returned (.bool true) ∧ Below w.heap.size w w' := by
  by_cases hE : 0 ≤ lim ∧ lim ≤ 100 ∧ 1 ≤ calm ∧ calm ≤ 1000
  · obtain ⟨la, lb, ca, cb⟩ := hE
    by_cases hS : 1 ≤ lim ∧ 0 ≤ time ∧ time ≤ 1099511627776
    · exact shuts_small w lim calm time right hS.1 lb ca cb hS.2.1 hS.2.2
    · have P1 := Lib.hid (snew_ok (w := w) (lim := lim) (calm := calm) la lb ca cb)
      have hX : lim < 1 ∨ ¬ lim < 1 ∧ time < 0 ∨ ¬ lim < 1 ∧ ¬ time < 0 ∧ 1099511627776 < time := by omega
      clear hS
      rcases hX with hX | ⟨h1, hX⟩ | ⟨h1, h2, hX⟩
      all_goals
        go_enter Try.func6, Try.ntmps6
        go_wp2_with fail
        refine P1.out.mono ?_
        rintro e w1 ⟨g, b, rfl, hg, hb, hS1, hF1⟩
        clear hS1
        go_wp2_with fail
        refine (alive15 _).mono ?_
        rintro e w3 ⟨rfl, hF3⟩
        go_wp2
        go_ret
        exact ⟨rfl, (hF1.trans hF3).below (Nat.le_refl _) (by simp)⟩
  · have P := Lib.hid (snew_bad (w := w) (lim := lim) (calm := calm) (by omega))
    clear hE
    go_enter Try.func6, Try.ntmps6
    go_wp2_with fail
    refine P.out.mono ?_
    rintro e w1 ⟨rfl, rfl⟩
    go_wp2_with fail
    refine (alive15 _).mono ?_
    rintro e w3 ⟨rfl, hF3⟩
    go_wp2
    go_ret
    exact ⟨rfl, hF3.below (Nat.le_refl _) (by simp)⟩
end Go.Proofs.Ytpljdnocdhppmaa
