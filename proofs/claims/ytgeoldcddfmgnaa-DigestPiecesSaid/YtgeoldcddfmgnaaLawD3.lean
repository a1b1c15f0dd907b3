/- DigestMasks, DigestShows, DigestPieces, walked. -/
import Derived.Test.YtgeoldcddfmgnaaRMask
import Derived.Deep.RegionHeld3
import Derived.IntWalk
namespace Go.Proofs.Ytgeoldcddfmgnaa
open Go.RowKit
set_option linter.unusedVariables false

section
variable (kind : Int) (s vec v : List UInt8) (w : World) (k0 : -9223372036854775808 ≤ kind) (k1 : kind ≤ 9223372036854775807) (hs : s.length ≤ 3000) (hvec : vec.length ≤ 3000) (hv : v.length ≤ 3000)
include k0 k1 hs hvec hv
theorem mask_any : Calls Try.prog 32 #[.int .i64 kind, .string (B s), .string (B vec), .string (B v)] w fun e w' => e = .returned (.string (B (maskL false s v (maskK kind s vec)))) ∧ Fr [] w w' := by
  have C := Lib.hid fun W => masked_out kind s vec v W k0 k1 hs hvec hv
  go_enter Try.func32, Try.ntmps32
  go_wp2_with fail
  refine (C.out _).mono ?_
  rintro e w1 ⟨rfl, hF⟩
  go_wp2
  go_ret
  exact ⟨rfl, hF⟩
theorem unmask_any : Calls Try.prog 34 #[.int .i64 kind, .string (B s), .string (B vec), .string (B v)] w fun e w' => e = .returned (.string (B (maskL true s v (maskK kind s vec)))) ∧ Fr [] w w' := by
  have C := Lib.hid fun W => masked_in kind s vec v W k0 k1 hs hvec hv
  go_enter Try.func34, Try.ntmps34
  go_wp2_with fail
  refine (C.out _).mono ?_
  rintro e w1 ⟨rfl, hF⟩
  go_wp2
  go_ret
  exact ⟨rfl, hF⟩
theorem rMask_any : Calls Try.prog 33 #[.int .i64 kind, .string (B s), .string (B vec), .string (B v)] w fun e w' => e = .returned (.string (B (maskL false s v (maskK kind s vec)))) ∧ Fr [] w w' := by
  have C := Lib.hid fun W => rmask_out kind s vec v W k0 k1 hs hvec hv
  go_enter Try.func33, Try.ntmps33
  go_wp2_with fail
  refine (C.out _).mono ?_
  rintro e w1 ⟨rfl, hF⟩
  go_wp2
  go_ret
  exact ⟨rfl, hF⟩
theorem rUnmask_any : Calls Try.prog 35 #[.int .i64 kind, .string (B s), .string (B vec), .string (B v)] w fun e w' => e = .returned (.string (B (maskL true s v (maskK kind s vec)))) ∧ Fr [] w w' := by
  have C := Lib.hid fun W => rmask_in kind s vec v W k0 k1 hs hvec hv
  go_enter Try.func35, Try.ntmps35
  go_wp2_with fail
  refine (C.out _).mono ?_
  rintro e w1 ⟨rfl, hF⟩
  go_wp2
  go_ret
  exact ⟨rfl, hF⟩
end

set_option maxHeartbeats 1000000 in
theorem digestMasks_walk (w : World) (kind : Int) (k0 : -9223372036854775808 ≤ kind) (k1 : kind ≤ 9223372036854775807) (s : ByteArray) (hs : s.size ≤ 140737488351232) (vec : ByteArray) (hvec : vec.size ≤ 140737488351232) (v : ByteArray) (hv : v.size ≤ 140737488351232) :
    Calls Try.prog 11 #[.int .i64 kind, .string s, .string vec, .string v] w fun e w' => e = .returned (.bool true) ∧ Below w.heap.size w w' := by
  obtain ⟨s, rfl⟩ : ∃ l, s = B l := ⟨_, B_of s⟩
  obtain ⟨vec, rfl⟩ : ∃ l, vec = B l := ⟨_, B_of vec⟩
  obtain ⟨v, rfl⟩ : ∃ l, v = B l := ⟨_, B_of v⟩
  rw [B_size] at hs hvec hv
  by_cases h : 3000 < s.length + vec.length + v.length
  · have h1 : (3000 : Int) < (s.length : Int) + vec.length + v.length := by omega
    have Hk := Lib.hid (And.intro k0 k1)
    clear h k0 k1
    go_enter Try.func11, Try.ntmps11
    go_wp2_with fail
    refine (alive2 _).mono ?_
    rintro e w1 ⟨rfl, hF⟩
    go_wp2
    go_ret
    exact ⟨rfl, hF.below (Nat.le_refl _) (by simp)⟩
  · have h1 : ¬ (3000 : Int) < (s.length : Int) + vec.length + v.length := by omega
    have A := Lib.hid fun W => mask_any kind s vec v W k0 k1 (by omega) (by omega) (by omega)
    have Bm := Lib.hid fun W => rMask_any kind s vec v W k0 k1 (by omega) (by omega) (by omega)
    have C := Lib.hid fun W => unmask_any kind s vec v W k0 k1 (by omega) (by omega) (by omega)
    have D := Lib.hid fun W => rUnmask_any kind s vec v W k0 k1 (by omega) (by omega) (by omega)
    obtain ⟨X, hX⟩ : ∃ X, maskL false s v (maskK kind s vec) = X := ⟨_, rfl⟩
    obtain ⟨Y, hY⟩ : ∃ Y, maskL true s v (maskK kind s vec) = Y := ⟨_, rfl⟩
    rw [hX] at A Bm
    rw [hY] at C D
    clear hX hY h k0 k1
    go_enter Try.func11, Try.ntmps11
    go_wp2_with fail
    refine (alive2 _).mono ?_
    rintro e w1 ⟨rfl, hF1⟩
    go_wp2_with fail
    refine (A.out _).mono ?_
    rintro e w2 ⟨rfl, hF2⟩
    go_wp2_with fail
    refine (Bm.out _).mono ?_
    rintro e w3 ⟨rfl, hF3⟩
    go_wp2_with fail
    refine (C.out _).mono ?_
    rintro e w4 ⟨rfl, hF4⟩
    go_wp2_with fail
    refine (D.out _).mono ?_
    rintro e w5 ⟨rfl, hF5⟩
    go_wp2
    go_ret
    exact ⟨rfl, ((((hF1.trans hF2).trans hF3).trans hF4).trans hF5).below (Nat.le_refl _) (by simp)⟩

set_option maxHeartbeats 1000000 in
theorem digestShows_walk (w : World) (kind : Int) (k0 : -9223372036854775808 ≤ kind) (k1 : kind ≤ 9223372036854775807) (s : ByteArray) (hs : s.size ≤ 140737488351232) (vec : ByteArray) (hvec : vec.size ≤ 140737488351232) (v : ByteArray) (hv : v.size ≤ 140737488351232)
    (c : Int) (c0 : -9223372036854775808 ≤ c) (c1 : c ≤ 9223372036854775807) :
    Calls Try.prog 12 #[.int .i64 kind, .string s, .string vec, .string v, .int .i64 c] w fun e w' => e = .returned (.bool true) ∧ Below w.heap.size w w' := by
  obtain ⟨s, rfl⟩ : ∃ l, s = B l := ⟨_, B_of s⟩
  obtain ⟨vec, rfl⟩ : ∃ l, vec = B l := ⟨_, B_of vec⟩
  obtain ⟨v, rfl⟩ : ∃ l, v = B l := ⟨_, B_of v⟩
  rw [B_size] at hs hvec hv
  by_cases h : 3000 < s.length + vec.length + v.length ∨ c < 0 ∨ (v.length : Int) / 16 < c
  · have h1 : (3000 : Int) < (s.length : Int) + vec.length + v.length ∨ ¬ (3000 : Int) < (s.length : Int) + vec.length + v.length ∧ c < 0 ∨ ¬ (3000 : Int) < (s.length : Int) + vec.length + v.length ∧ ¬ c < 0 ∧ (v.length : Int) / 16 < c := by omega
    have Hk := Lib.hid (And.intro k0 k1)
    clear h k0 k1
    rcases h1 with h1 | ⟨h1, h2⟩ | ⟨h1, h2, h3⟩
    all_goals
      go_enter Try.func12, Try.ntmps12
      go_wp2_with fail
      refine (alive2 _).mono ?_
      rintro e w1 ⟨rfl, hF⟩
      go_wp2
      go_ret
      exact ⟨rfl, hF.below (Nat.le_refl _) (by simp)⟩
  · have h1 : ¬ (3000 : Int) < (s.length : Int) + vec.length + v.length := by omega
    have h2 : ¬ c < 0 := by omega
    have h3 : ¬ (v.length : Int) / 16 < c := by omega
    obtain ⟨n, rfl⟩ : ∃ n : Nat, c = n := ⟨c.toNat, by omega⟩
    have hn : 16 * n ≤ v.length := by omega
    obtain ⟨m, hm⟩ : ∃ m : Nat, 16 * n = m := ⟨_, rfl⟩
    have hmi : 16 * (n : Int) = (m : Int) := by omega
    have hmv : m ≤ v.length := by omega
    have htl : (v.take m).length = m := by rw [List.length_take]; omega
    have A := Lib.hid fun W => mask_any kind s vec v W k0 k1 (by omega) (by omega) (by omega)
    have Ml := maskL_length false s v (maskK kind s vec)
    have C := Lib.hid fun W => unmask_any kind s vec (maskL false s v (maskK kind s vec)) W k0 k1 (by omega) (by omega) (by omega)
    have T := Lib.hid fun W => mask_any kind s vec (v.take m) W k0 k1 (by omega) (by omega) (by omega)
    have e1 := maskL_shows s v (maskK kind s vec)
    have e2 := maskL_take false s v (maskK kind s vec) n hn
    rw [hm] at e2
    rw [e1] at C
    rw [e2] at T
    obtain ⟨X, hX⟩ : ∃ X, maskL false s v (maskK kind s vec) = X := ⟨_, rfl⟩
    rw [hX] at A C T Ml
    have Hmi := Lib.hid hmi
    have mX : m ≤ X.length := by omega
    have hml : (X.length : Int) = v.length := by omega
    have HMl := Lib.hid Ml
    have Hml := Lib.hid hml
    have c3 : (m : Int) ≤ X.length := by omega
    have c4 : (m : Int) ≤ v.length := by omega
    have c5 : 16 * (n : Int) ≤ 3000 := by omega
    clear hX e1 e2 h k0 k1 hm hn htl Ml hml hmi
    have hq : ((X.length : Int) == (v.length : Int)) = true := by rw [beq_iff_eq]; exact Hml.out
    have hq2 : (X.length == v.length) = true := by rw [beq_iff_eq]; exact HMl.out
    have hmi := Hmi.out
    go_enter Try.func12, Try.ntmps12
    go_wp2_with fail
    refine (A.out _).mono ?_
    rintro e w1 ⟨rfl, hF1⟩
    have hG := hF1.drew
    clear hF1
    have hr1 : IntKind.i64.wrap (16 * (n : Int)) = (m : Int) := by rw [hmi]; exact IntWalk.i64_in _ (by omega)
    have hr2 : IntKind.i64.wrap (m : Int) = (m : Int) := IntWalk.i64_in _ (by omega)
    go_wp2_with fail
    go_region_held3 (fun w' => Fr [] w w') (first | exact hG | assumption | exact Fr.trans (by assumption) hF3)
      (first
        | (go_at_call 15; refine (alive2 _).mono ?_; rintro e w3 ⟨rfl, hF3⟩)
        | (go_at_call 34; ((with_reducible refine (C.out _).mono ?_); rintro e w3 ⟨rfl, hF3⟩))
        | (go_at_call 32; ((with_reducible refine (T.out _).mono ?_); rintro e w3 ⟨rfl, hF3⟩)))
    all_goals
      have hfin : Fr [] w w3 := by assumption
      clear A C T hG
      go_wp2_with fail
      go_ret
      exact ⟨rfl, hfin.below (Nat.le_refl _) (by simp)⟩

theorem maskL_first (inn : Bool) (s a b K : List UInt8) (h : 16 ≤ a.length) : (maskL inn s (a.take 16 ++ b) K).take 16 = (maskL inn s a K).take 16 := by
  have hl : (a.take 16 ++ b).length = 16 + b.length := by rw [List.length_append, List.length_take]; omega
  have h1 := outM_pre inn s a K 1 (by omega)
  have h2 := outM_pre inn s (a.take 16 ++ b) K 1 (by omega)
  rw [Nat.mul_one] at h1 h2
  rw [h1, h2]
  refine outM_congr inn s _ _ K 1 (fun j hj => ?_)
  obtain rfl : j = 0 := by omega
  unfold pc
  rw [Nat.mul_zero, List.drop_zero, List.drop_zero, List.take_append_of_le_length (by rw [List.length_take]; omega), List.take_take]
  rfl

set_option maxRecDepth 100000 in
set_option maxHeartbeats 2000000 in
theorem digestPieces_walk (w : World) (kind : Int) (k0 : -9223372036854775808 ≤ kind) (k1 : kind ≤ 9223372036854775807) (s : ByteArray) (hs : s.size ≤ 140737488351232) (vec : ByteArray) (hvec : vec.size ≤ 140737488351232) (a : ByteArray) (ha : a.size ≤ 140737488351232) (b : ByteArray) (hb : b.size ≤ 140737488351232) :
    Calls Try.prog 13 #[.int .i64 kind, .string s, .string vec, .string a, .string b] w fun e w' => e = .returned (.bool true) ∧ Below w.heap.size w w' := by
  obtain ⟨s, rfl⟩ : ∃ l, s = B l := ⟨_, B_of s⟩
  obtain ⟨vec, rfl⟩ : ∃ l, vec = B l := ⟨_, B_of vec⟩
  obtain ⟨a, rfl⟩ : ∃ l, a = B l := ⟨_, B_of a⟩
  obtain ⟨b, rfl⟩ : ∃ l, b = B l := ⟨_, B_of b⟩
  rw [B_size] at hs hvec ha hb
  by_cases h : 2000 < s.length + vec.length + a.length + b.length ∨ a.length < 16
  · have h1 : (2000 : Int) < (s.length : Int) + vec.length + a.length + b.length ∨ ¬ (2000 : Int) < (s.length : Int) + vec.length + a.length + b.length ∧ (a.length : Int) < 16 := by omega
    have Hk := Lib.hid (And.intro k0 k1)
    clear h k0 k1
    rcases h1 with h1 | ⟨h1, h2⟩
    all_goals
      go_enter Try.func13, Try.ntmps13
      go_wp2_with fail
      refine (alive2 _).mono ?_
      rintro e w1 ⟨rfl, hF⟩
      go_wp2
      go_ret
      exact ⟨rfl, hF.below (Nat.le_refl _) (by simp)⟩
  · have h1 : ¬ (2000 : Int) < (s.length : Int) + vec.length + a.length + b.length := by omega
    have h2 : ¬ (a.length : Int) < 16 := by omega
    have htl : (List.take 16 a).length = 16 := by rw [List.length_take]; omega
    have hcl : (List.take 16 a ++ b).length = 16 + b.length := by rw [List.length_append, htl]
    have A := Lib.hid fun W => mask_any kind s vec a W k0 k1 (by omega) (by omega) (by omega)
    have C := Lib.hid fun W => mask_any kind s vec (List.take 16 a ++ b) W k0 k1 (by omega) (by omega) (by omega)
    have D := Lib.hid fun W => unmask_any kind s vec (List.take 16 a ++ b) W k0 k1 (by omega) (by omega) (by omega)
    have E := Lib.hid fun W => unmask_any kind s vec a W k0 k1 (by omega) (by omega) (by omega)
    have l1 := maskL_length false s a (maskK kind s vec)
    have l2 := maskL_length false s (List.take 16 a ++ b) (maskK kind s vec)
    have l3 := maskL_length true s (List.take 16 a ++ b) (maskK kind s vec)
    have l4 := maskL_length true s a (maskK kind s vec)
    have f1 := maskL_first false s a b (maskK kind s vec) (by omega)
    have f2 := maskL_first true s a b (maskK kind s vec) (by omega)
    rw [hcl] at l2 l3
    obtain ⟨X, hX⟩ : ∃ X, maskL false s a (maskK kind s vec) = X := ⟨_, rfl⟩
    obtain ⟨Y, hY⟩ : ∃ Y, maskL false s (List.take 16 a ++ b) (maskK kind s vec) = Y := ⟨_, rfl⟩
    obtain ⟨U, hU⟩ : ∃ Y, maskL true s (List.take 16 a ++ b) (maskK kind s vec) = Y := ⟨_, rfl⟩
    obtain ⟨V, hV⟩ : ∃ Y, maskL true s a (maskK kind s vec) = Y := ⟨_, rfl⟩
    rw [hX] at A l1 f1
    rw [hY] at C l2 f1
    rw [hU] at D l3 f2
    rw [hV] at E l4 f2
    have p1 : ((X.length : Int) != (a.length : Int)) = false := by rw [l1]; simp
    have p2 : ((Y.length : Int) != 16 + (b.length : Int)) = false := by rw [l2]; simp
    have p3 : ((U.length : Int) != 16 + (b.length : Int)) = false := by rw [l3]; simp
    have p4 : ((V.length : Int) != (a.length : Int)) = false := by rw [l4]; simp
    have p5 : (X.length != a.length) = false := by rw [l1]; simp
    have p8 : (V.length != a.length) = false := by rw [l4]; simp
    have q1 : 16 ≤ X.length := by omega
    have q2 : 16 ≤ Y.length := by omega
    have q3 : 16 ≤ U.length := by omega
    have q4 : 16 ≤ V.length := by omega
    have r1 : (16 : Int) ≤ X.length := by omega
    have r2 : (16 : Int) ≤ Y.length := by omega
    have r3 : (16 : Int) ≤ U.length := by omega
    have r4 : (16 : Int) ≤ V.length := by omega
    have f1' : (List.take 16 X == List.take 16 Y) = true := by rw [beq_iff_eq]; exact f1.symm
    have f2' : (List.take 16 U == List.take 16 V) = true := by rw [beq_iff_eq]; exact f2
    have b1 : ¬ 9223372036854775807 < 16 + b.length := by omega
    have b3 : (b.length : Int) ≤ 2000 := by omega
    have hl1 := Lib.hid l1
    have hl2 := Lib.hid l2
    have hl3 := Lib.hid l3
    have hl4 := Lib.hid l4
    have hf1 := Lib.hid f1
    have hf2 := Lib.hid f2
    clear hX hY hU hV h k0 k1 l1 l2 l3 l4 f1 f2 hcl
    go_enter Try.func13, Try.ntmps13
    go_wp2_with fail
    refine (A.out _).mono ?_
    rintro e w1 ⟨rfl, hF1⟩
    go_wp2_with fail
    refine (C.out _).mono ?_
    rintro e w2 ⟨rfl, hF2⟩
    go_wp2_with fail
    refine (D.out _).mono ?_
    rintro e w3 ⟨rfl, hF3⟩
    go_wp2_with fail
    refine (E.out _).mono ?_
    rintro e w4 ⟨rfl, hF4⟩
    have hG := (((hF1.trans hF2).trans hF3).trans hF4).drew
    clear hF1 hF2 hF3 hF4
    go_wp2_with fail
    go_region_held3 (fun w' => Fr [] w w') (first | exact hG | assumption | exact Fr.trans (by assumption) hF3)
      (first | (go_at_call 15; refine (alive2 _).mono ?_; rintro e w3 ⟨rfl, hF3⟩))
    all_goals
      have hfin : Fr [] w w3 := by assumption
      clear A C D E hG
      go_wp2_with fail
      go_ret
      exact ⟨rfl, hfin.below (Nat.le_refl _) (by simp)⟩
end Go.Proofs.Ytgeoldcddfmgnaa
