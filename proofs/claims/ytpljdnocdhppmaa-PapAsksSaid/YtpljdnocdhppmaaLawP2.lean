/- PapBack, walked. -/
import Derived.Test.YtpljdnocdhppmaaLawP1
namespace Go.Proofs.Ytpljdnocdhppmaa
open Go.RowKit
set_option linter.unusedVariables false

theorem pE_one (x r : List UInt8) (h : x.length ≤ 60) : pE (one x ++ r) = 0 ∧ pH (one x ++ r) = x ∧ pT (one x ++ r) = r := by
  have hc : (UInt8.ofNat ((x.length : Int)).toNat).toNat = x.length := by
    have : ((x.length : Int)).toNat = x.length := by omega
    rw [this]
    have e : (UInt8.ofNat x.length).toNat = x.length % 256 := by simp
    omega
  have e : one x ++ r = UInt8.ofNat ((x.length : Int)).toNat :: (x ++ r) := by simp [one, bytesOf]
  rw [e]
  refine ⟨?_, ?_, ?_⟩
  · simp only [pE, hc]
    rw [if_neg (by omega), if_neg (by rw [List.length_append]; omega)]
  · simp only [pH, pN, hc, List.drop_succ_cons, List.drop_zero]
    rw [List.take_append_of_le_length (Nat.le_refl _), List.take_length]
  · simp only [pT, pN, hc]
    rw [Nat.add_comm, List.drop_succ_cons, List.drop_append_of_le_length (Nat.le_refl _), List.drop_length, List.nil_append]
theorem pE_cut (x : List UInt8) (hx : x.length ≤ 60) (m : Nat) (hm : m < (one x).length) : pE ((one x).take m) = 5 := by
  have hc : (UInt8.ofNat ((x.length : Int)).toNat).toNat = x.length := by
    have : ((x.length : Int)).toNat = x.length := by omega
    rw [this]
    have e : (UInt8.ofNat x.length).toNat = x.length % 256 := by simp
    omega
  have e : one x = UInt8.ofNat ((x.length : Int)).toNat :: x := by simp [one, bytesOf]
  rw [one_length] at hm
  rw [e]
  cases m with
  | zero => rfl
  | succ m =>
    rw [List.take_succ_cons]
    simp only [pE, hc]
    rw [if_neg (by omega), if_pos (by rw [List.length_take]; omega)]
/-- what was put is got; with more it is not; cut it is not -/
theorem req_back (n s more : List UInt8) (hn : n.length ≤ 60) (hs : s.length ≤ 60) :
    getE 2 (reqL n s) = 0 ∧ greqN (reqL n s) = n ∧ greqS (reqL n s) = s ∧ (more ≠ [] → getE 2 (reqL n s ++ more) = 4) ∧ getE 2 ((reqL n s).take ((reqL n s).length - 1)) = 5 ∧ (reqL n s).length = n.length + s.length + 2 := by
  have eL : reqL n s = one n ++ one s := by unfold reqL; rw [if_pos ⟨hn, hs⟩]
  obtain ⟨a1, a2, a3⟩ := pE_one n (one s) hn
  obtain ⟨b1, b2, b3⟩ := pE_one s [] hs
  rw [List.append_nil] at b1 b2 b3
  have g : ∀ l, getE 2 l = if pE l = 0 then (if pE (pT l) = 0 then (if pT (pT l) = [] then 0 else 4) else pE (pT l)) else pE l := fun _ => rfl
  have g0 : getE 2 (one n ++ one s) = 0 := by rw [g, if_pos a1, a3, if_pos b1, if_pos b3]
  rw [eL]
  refine ⟨g0, ?_, ?_, fun hm => ?_, ?_, by rw [List.length_append, one_length, one_length]; omega⟩
  · unfold greqN; rw [if_pos g0, a2]
  · unfold greqS; rw [if_pos g0, a3, b2]
  · obtain ⟨c1, c2, c3⟩ := pE_one n (one s ++ more) hn
    obtain ⟨d1, d2, d3⟩ := pE_one s more hs
    rw [List.append_assoc, g, if_pos c1, c3, if_pos d1, d3, if_neg hm]
  · have hl : (one n ++ one s).length - 1 = (one n).length + ((one s).length - 1) := by rw [List.length_append, one_length s]; omega
    rw [hl, List.take_length_add_append]
    obtain ⟨c1, c2, c3⟩ := pE_one n ((one s).take ((one s).length - 1)) hn
    have hcut := pE_cut s hs ((one s).length - 1) (by rw [one_length]; omega)
    rw [g, if_pos c1, c3, if_neg (by rw [hcut]; decide), hcut]
theorem say_back (n : List UInt8) (hn : n.length ≤ 60) : sayE n = 0 ∧ gsayE (sayL n) = 0 ∧ gsayL (sayL n) = n := by
  obtain ⟨b1, b2, b3⟩ := pE_one n [] hn
  rw [List.append_nil] at b1 b2 b3
  have eL : sayL n = one n := by unfold sayL; rw [if_pos hn]
  have e0 : one n ≠ [] := by intro h; have := one_length n; rw [h] at this; simp at this
  have g1 : getE 1 (one n) = 0 := by
    show (if pE (one n) = 0 then (if pT (one n) = [] then 0 else 4) else pE (one n)) = (0 : Int)
    rw [if_pos b1, if_pos b3]
  refine ⟨by unfold sayE; rw [if_pos hn], ?_, ?_⟩
  · rw [eL]; unfold gsayE; rw [if_neg e0, g1]
  · rw [eL]; unfold gsayL; rw [if_neg e0, if_pos g1, b2]

set_option maxRecDepth 100000 in
set_option maxHeartbeats 2000000 in
theorem papBack_walk (w : World) (n : ByteArray) (hn : n.size ≤ 140737488351232) (s : ByteArray) (hs : s.size ≤ 140737488351232) (m : ByteArray) (hm : m.size ≤ 140737488351232) :
    Calls Try.prog 5 #[.string n, .string s, .string m] w fun e w' => e = .returned (.bool true) ∧ Below w.heap.size w w' := by
  obtain ⟨n, rfl⟩ : ∃ l, n = B l := ⟨_, B_of n⟩
  obtain ⟨s, rfl⟩ : ∃ l, s = B l := ⟨_, B_of s⟩
  obtain ⟨m, rfl⟩ : ∃ l, m = B l := ⟨_, B_of m⟩
  rw [B_size] at hn hs hm
  have P := fun W => putReq_any n s W (by omega) (by omega)
  by_cases h60 : n.length ≤ 60 ∧ s.length ≤ 60
  · by_cases hmm : m = [] ∨ 300 < m.length
    · have hE : reqE n s = 0 := by unfold reqE; rw [if_pos h60]
      rw [hE] at P
      have P' := Lib.hid P
      have hm2 : m.isEmpty = true ∨ m.isEmpty = false ∧ (300 : Int) < m.length := by
        rcases hmm with h | h
        · left; rw [h]; rfl
        · right; exact ⟨by cases m with | nil => simp at h | cons _ _ => rfl, by omega⟩
      clear P hE h60 hmm
      rcases hm2 with h1 | ⟨h1, h2⟩
      all_goals
        go_enter Try.func5, Try.ntmps5
        go_wp2_with fail
        refine (P'.out _).mono ?_
        rintro e w1 ⟨rfl, hF1⟩
        go_wp2_with fail
        refine (alive13 _).mono ?_
        rintro e w2 ⟨rfl, hF2⟩
        go_wp2
        go_ret
        exact ⟨rfl, (hF1.trans hF2).below (Nat.le_refl _) (by simp)⟩
    · have hE : reqE n s = 0 := by unfold reqE; rw [if_pos h60]
      have hm1 : m ≠ [] := fun h => hmm (Or.inl h)
      obtain ⟨r1, r2, r3, r4, r5, r6⟩ := req_back n s m h60.1 h60.2
      have r4 := r4 hm1
      obtain ⟨s1, s2, s3⟩ := say_back n h60.1
      rw [hE] at P
      have hl1 := reqL_le n s
      have G1 := fun W => getReq_any (reqL n s) W (by omega)
      have G2 := fun W => getReq_any (reqL n s ++ m) W (by rw [List.length_append]; omega)
      have G3 := fun W => getReq_any ((reqL n s).take ((reqL n s).length - 1)) W (by rw [List.length_take]; omega)
      have S1 := fun W => putSay_any n W (by omega)
      have sl : (sayL n).length ≤ 61 := by unfold sayL; rw [if_pos h60.1, one_length]; omega
      have S2 := fun W => getSay_any (sayL n) W (by omega)
      rw [r1, r2, r3] at G1
      rw [r4] at G2
      rw [r5] at G3
      rw [s1] at S1
      rw [s2, s3] at S2
      obtain ⟨X, hX⟩ : ∃ X, reqL n s = X := ⟨_, rfl⟩
      obtain ⟨Y, hY⟩ : ∃ Y, sayL n = Y := ⟨_, rfl⟩
      rw [hX] at P G1 G2 G3 r6 hl1
      rw [hY] at S1 S2
      have hx1 : ((X.length : Int) < 2) = False := by simp; omega
      have hx2 : ¬ (X.length : Int) < 2 := by omega
      have hx3 : 2 ≤ X.length := by omega
      have hme : m.isEmpty = false := by cases m with | nil => exact absurd rfl hm1 | cons _ _ => rfl
      have hm3 : ¬ (300 : Int) < m.length := by omega
      have hm4 : m.length ≤ 300 := by omega
      have b1 : ¬ 9223372036854775807 < X.length + m.length := by omega
      have P' := Lib.hid P
      have G1' := Lib.hid G1
      have G2' := Lib.hid G2
      have G3' := Lib.hid G3
      have S1' := Lib.hid S1
      have S2' := Lib.hid S2
      clear P G1 G2 G3 S1 S2 hX hY r1 r2 r3 r4 r5 s1 s2 s3 hE h60 hmm hm1 r6 sl hx1
      go_enter Try.func5, Try.ntmps5
      go_wp2_with fail
      refine (P'.out _).mono ?_
      rintro e w1 ⟨rfl, hF1⟩
      go_wp2_with fail
      refine (G1'.out _).mono ?_
      rintro e w2 ⟨rfl, hF2⟩
      go_wp2_with fail
      refine (G2'.out _).mono ?_
      rintro e w3 ⟨rfl, hF3⟩
      go_wp2_with fail
      refine (G3'.out _).mono ?_
      rintro e w4 ⟨rfl, hF4⟩
      go_wp2_with fail
      refine (S1'.out _).mono ?_
      rintro e w5 ⟨rfl, hF5⟩
      go_wp2_with fail
      refine (S2'.out _).mono ?_
      rintro e w6 ⟨rfl, hF6⟩
      go_wp2_with fail
      refine (alive13 _).mono ?_
      rintro e w7 ⟨rfl, hF7⟩
      go_wp2
      go_ret
      exact ⟨rfl, ((((((hF1.trans hF2).trans hF3).trans hF4).trans hF5).trans hF6).trans hF7).below (Nat.le_refl _) (by simp)⟩
  · have hE : reqE n s = 2 := by unfold reqE; rw [if_neg h60]
    rw [hE] at P
    have P' := Lib.hid P
    clear P hE h60
    go_enter Try.func5, Try.ntmps5
    go_wp2_with fail
    refine (P'.out _).mono ?_
    rintro e w1 ⟨rfl, hF1⟩
    go_wp2_with fail
    refine (alive13 _).mono ?_
    rintro e w2 ⟨rfl, hF2⟩
    go_wp2
    go_ret
    exact ⟨rfl, (hF1.trans hF2).below (Nat.le_refl _) (by simp)⟩
end Go.Proofs.Ytpljdnocdhppmaa
