/- StoreForgets, walked. -/
import Derived.Test.YtpljdnocdhppmaaLawS2
namespace Go.Proofs.Ytpljdnocdhppmaa
open Go.RowKit Go.Maps
set_option linter.unusedVariables false

def kF (s : List UInt8) (i : Int) : Kn := ⟨s, i, 0⟩
theorem fg_step {s : List UInt8} {i : Int} (i1 : i ≤ 1000) : tryE 0 5 0 (fun k => decide (k.s = s ++ [120])) (some (kF s i)) = 30 ∧ tryK 0 5 0 (fun k => decide (k.s = s ++ [120])) (kF s i) = kF s (i + 1) := by
  have hs : shutB 0 5 (kF s i) 0 = false := by unfold shutB; exact decide_eq_false (by omega)
  have ho : decide ((kF s i).s = s ++ [120]) = false := decide_eq_false (by show ¬ s = s ++ [120]; intro h; have := congrArg List.length h; simp at this)
  simp only [tryE, tryK, hs, ho]
  refine ⟨by simp, ?_⟩
  simp only [badK, kF, Bool.false_eq_true, if_false]
  rw [min_max i i1]
theorem del_one (who : Who) (x : Nat) : del [(who, x)] who = [] := by simp [del]
theorem pap_empty {w : World} {g bm : Nat} {lim calm t : Int} {K : Nat → Kn} (f s : List UInt8) (hf : f.length ≤ 140737488355328) (hs : s.length ≤ 140737488351232) (h : StoreIs w g lim calm (some bm) [] K)
    (t0 : -9223372036854775808 ≤ t) (t1 : t ≤ 9223372036854775807) (m0 : 0 ≤ calm) (m1 : calm ≤ 1000) :
    Calls Try.prog 26 #[.pointer (some ⟨g, 0, none⟩), .string (B f), .string (B s), .int .i64 t] w fun e w' => e = .returned (.int .i64 30) ∧ StoreIs w' g lim calm (some bm) [] K ∧ Fr [] w w' :=
  (pap_any f s hf hs h (fun p hp => by cases hp) (fun p hp => by cases hp) t0 t1 m0 m1).mono fun e w' ⟨he, hS, hF⟩ => ⟨he, hS, hF⟩
set_option maxRecDepth 100000 in
set_option maxHeartbeats 4000000 in
theorem forgets_small (w : World) (f s : List UInt8) (n : Int) (s0 : s ≠ []) (s1 : s.length ≤ 50) (f1 : f.length ≤ 60) (n0 : 0 ≤ n) (n1 : n ≤ 50) :
    Calls Try.prog 7 #[.string (B f), .string (B s), .int .i64 n] w fun e w' => e = .returned (.bool true) ∧ Below w.heap.size w w' := by
  have P1 := Lib.hid (snew_ok (w := w) (lim := 0) (calm := 5) (by omega) (by omega) (by omega) (by omega))
  obtain ⟨who, hwho⟩ : ∃ who, (spN f, spR f) = who := ⟨_, rfl⟩
  have HW0 := Lib.hid hwho
  have hse : s.isEmpty = false := by simpa using s0
  have h1 : ¬ (50 : Int) < s.length := by omega
  have h2 : ¬ (60 : Int) < f.length := by omega
  have S0 := Lib.hid s0
  clear hwho s0
  go_enter Try.func7, Try.ntmps7
  go_wp2_with fail
  refine P1.out.mono ?_
  rintro e w1 ⟨g, b, rfl, hg, hb, hS1, hF1⟩
  have HS1 := Lib.hid (one_new (who := who) f s f1 (by omega) S0.out HW0.out hS1)
  clear hS1 P1
  go_wp2_with fail
  refine HS1.out.mono ?_
  rintro e w2 ⟨x, rfl, hx, hS2, hF2⟩
  have hx' : w.heap.size ≤ x := by have := hF1.size; omega
  have hF3 : Fr [] w w2 := hF1.sub hF2 (fun y hy => by simp at hy; subst hy; exact Or.inr hb)
  have hS3 : One w2 g b x 0 5 who (kF s 0) := hS2
  have HX := Lib.hid fun (y : Nat) (hy : y ∈ [x]) => show y ∈ ([] : List Nat) ∨ w.heap.size ≤ y by simp at hy; subst hy; exact Or.inr hx'
  have HX2 := Lib.hid fun (y : Nat) (hy : y ∈ [b]) => show y ∈ ([] : List Nat) ∨ w.heap.size ≤ y by simp at hy; subst hy; exact Or.inr hb
  have o1 : ¬ 9223372036854775807 < s.length + 1 := by omega
  clear HS1 hF1 hF2 hS2
  go_wp2
  go_loopw [9] (fun iv wr => ∃ i : Nat, (i : Int) ≤ n ∧ iv = .int .i64 i ∧ One wr g b x 0 5 who (kF s i) ∧ Fr [] w wr) (fun iv _ => (n - intOf iv).toNat)
  case atStart => exact ⟨0, by omega, rfl, hS3, hF3⟩
  case round =>
    clear hS3 hF3
    obtain ⟨i, hi, rfl, hS, hF⟩ := hrel
    by_cases hlt : (i : Int) < n
    · obtain ⟨e1, e2⟩ := fg_step (s := s) (i := i) (by omega)
      have HP := Lib.hid (one_pap (t := 0) (k := kF s i) f (s ++ [120]) (by omega) (by simp; omega) HW0.out hS (by unfold KnOk kF; simp only; omega) (show s.length ≤ 60 by omega) (by omega) (by omega) (by omega) (by omega) 30 _ e1 e2)
      have hi100 : (i : Int) ≤ 100 := by omega
      clear e1 e2 hS
      go_wp2_with fail
      refine HP.out.mono ?_
      rintro e w5 ⟨rfl, hS5, hG⟩
      have hF5 := hF.sub hG HX.out
      have HS5 := Lib.hid hS5
      clear HP hG hF hS5
      go_wp2
      go_roundw
      case rel => exact ⟨i + 1, by omega, by go_num, HS5.out, hF5⟩
      case measure => (simp [intOf]) <;> omega
    · have hil : (i : Int) = n := by omega
      have hge : ¬ (i : Int) < n := hlt
      rw [hil] at hS
      clear hil hi hlt
      have HW := Lib.hid (one_wrong f (by omega) HW0.out hS)
      go_wp2_with fail
      refine HW.out.mono ?_
      rintro e w5 ⟨rfl, hG⟩
      have hS5 := hS.fr0 hG
      have hF5 := hF.trans hG
      have HD := Lib.hid (set_del f f1 (Or.inl (by rw [HW0.out, look_one]; rfl)) hS5)
      clear HW hG hF hS hS5
      unfold kF
      go_wp2_with fail
      refine HD.out.mono ?_
      rintro e w6 ⟨rfl, hS6, hG⟩
      rw [HW0.out, del_one] at hS6
      have hF6 := hF5.sub hG HX2.out
      clear HD hG hF5
      go_wp2_with fail
      refine (alive15 _).mono ?_
      rintro e w7 ⟨rfl, hG⟩
      have hS7 := hS6.fr0 hG
      have hF7 := hF6.trans hG
      have HN := Lib.hid (len_store_any hS7)
      clear hG hF6 hS6
      go_wp2_with fail
      refine HN.out.mono ?_
      rintro e w8 ⟨rfl, rfl⟩
      have HW := Lib.hid (wrong_none f (by omega) hS7 rfl)
      clear HN
      go_wp2_with fail
      refine HW.out.mono ?_
      rintro e w8 ⟨rfl, hG⟩
      have hS8 := hS7.fr0 hG
      have hF8 := hF7.trans hG
      have HP := Lib.hid (pap_empty (t := 0) f [] (by omega) (by simp) hS8 (by omega) (by omega) (by omega) (by omega))
      clear HW hG hF7 hS7 hS8
      go_wp2_with fail
      refine HP.out.mono ?_
      rintro e w9 ⟨rfl, hS9, hG⟩
      have hF9 := hF8.trans hG
      have HP2 := Lib.hid (pap_empty (t := 0) f s (by omega) (by omega) hS9 (by omega) (by omega) (by omega) (by omega))
      clear HP hG hF8 hS9
      go_wp2_with fail
      refine HP2.out.mono ?_
      rintro e wa ⟨rfl, hSa, hG⟩
      have hFa := hF9.trans hG
      clear HP2 hG hF9 hSa
      go_wp2
      go_ret
      exact ⟨rfl, hFa.below (Nat.le_refl _) (by simp)⟩
set_option maxRecDepth 100000 in
set_option maxHeartbeats 4000000 in
theorem storeForgets_walk (w : World) (f : ByteArray) (hf : f.size ≤ 140737488351232) (s : ByteArray) (hs : s.size ≤ 140737488351232) (n : Int) (n0 : -9223372036854775808 ≤ n) (n1 : n ≤ 9223372036854775807) :
    Calls Try.prog 7 #[.string f, .string s, .int .i64 n] w fun e w' => e = .returned (.bool true) ∧ Below w.heap.size w w' := by
  obtain ⟨f, rfl⟩ : ∃ l, f = B l := ⟨_, B_of f⟩
  obtain ⟨s, rfl⟩ : ∃ l, s = B l := ⟨_, B_of s⟩
  rw [B_size] at hf hs
  by_cases hE : s ≠ [] ∧ s.length ≤ 50 ∧ f.length ≤ 60 ∧ 0 ≤ n ∧ n ≤ 50
  · exact forgets_small w f s n hE.1 hE.2.1 hE.2.2.1 hE.2.2.2.1 hE.2.2.2.2
  · have P1 := Lib.hid (snew_ok (w := w) (lim := 0) (calm := 5) (by omega) (by omega) (by omega) (by omega))
    have hX : s.isEmpty = true ∨ s.isEmpty = false ∧ (50 : Int) < s.length ∨ s.isEmpty = false ∧ ¬ (50 : Int) < s.length ∧ (60 : Int) < f.length ∨ s.isEmpty = false ∧ ¬ (50 : Int) < s.length ∧ ¬ (60 : Int) < f.length ∧ n < 0 ∨ s.isEmpty = false ∧ ¬ (50 : Int) < s.length ∧ ¬ (60 : Int) < f.length ∧ ¬ n < 0 ∧ 50 < n := by
      cases hq : s.isEmpty with
      | true => exact Or.inl rfl
      | false =>
        have : s ≠ [] := by simpa using hq
        simp only [ne_eq, this, not_false_eq_true, true_and] at hE
        have := hE
        right
        simp only [true_and]
        omega
    clear hE
    rcases hX with hX | ⟨h1, hX⟩ | ⟨h1, h2, hX⟩ | ⟨h1, h2, h3, hX⟩ | ⟨h1, h2, h3, h4, hX⟩
    all_goals
      go_enter Try.func7, Try.ntmps7
      go_wp2_with fail
      refine P1.out.mono ?_
      rintro e w1 ⟨g, b, rfl, hg, hb, hS1, hF1⟩
      clear hS1
      go_wp2_with fail
      refine (alive15 _).mono ?_
      rintro e w3 ⟨rfl, hF3⟩
      go_wp2
      go_ret
      exact ⟨rfl, (hF1.trans hF3).below (Nat.le_refl _) (by simp)⟩
end Go.Proofs.Ytpljdnocdhppmaa
