/- DigestMd5, DigestChap, walked. -/
import Derived.Test.YtgeoldcddfmgnaaChap2
namespace Go.Proofs.Ytgeoldcddfmgnaa
open Go.RowKit
set_option linter.unusedVariables false

set_option maxHeartbeats 1000000 in
theorem digestMd5_walk (w : World) (s : ByteArray) (hs : s.size ≤ 140737488351232) :
    Calls Try.prog 3 #[.string s] w fun e w' => e = .returned (.bool true) ∧ Below w.heap.size w w' := by
  obtain ⟨l, rfl⟩ : ∃ l, s = B l := ⟨_, B_of s⟩
  rw [B_size] at hs
  by_cases h : 3000 < l.length
  · have h1 : (3000 : Int) < l.length := by omega
    go_enter Try.func3, Try.ntmps3
    go_wp2_with fail
    refine (alive2 _).mono ?_
    rintro e w1 ⟨rfl, hF⟩
    go_wp2
    go_ret
    exact ⟨rfl, hF.below (Nat.le_refl _) (by simp)⟩
  · have h1 : ¬ (3000 : Int) < l.length := by omega
    have hl : l.length ≤ 100000 := by omega
    have m16 := md5_length l
    obtain ⟨D, hD⟩ : ∃ D, md5 l = D := ⟨_, rfl⟩
    rw [hD] at m16
    have heq := fun w => eq16 D D w m16 m16
    have hself := eqB_self D
    have HD := Lib.hid hD
    have H16 := Lib.hid m16
    clear hD m16
    go_enter Try.func3, Try.ntmps3
    go_wp2_with fail
    refine (alive2 _).mono ?_
    rintro e w1 ⟨rfl, hF1⟩
    go_wp2_with fail
    refine (md5_any l _ hl).mono ?_
    rw [HD.out]
    rintro e w2 ⟨rfl, hF2⟩
    go_wp2_with fail
    refine (rmd5_any l _ hl).mono ?_
    rw [HD.out]
    rintro e w3 ⟨rfl, hF3⟩
    go_wp2_with fail
    refine (md5_any l _ hl).mono ?_
    rw [HD.out]
    rintro e w4 ⟨rfl, hF4⟩
    go_wp2_with fail
    refine (text_any D _ H16.out).mono ?_
    rintro e w5 ⟨rfl, hF5⟩
    go_wp2_with fail
    refine (rmd5_any l _ hl).mono ?_
    rw [HD.out]
    rintro e w6 ⟨rfl, hF6⟩
    go_wp2_with fail
    refine (rtext_any D _ H16.out).mono ?_
    rintro e w7 ⟨rfl, hF7⟩
    go_wp2
    go_ret
    exact ⟨rfl, ((((((hF1.trans hF2).trans hF3).trans hF4).trans hF5).trans hF6).trans hF7).below (Nat.le_refl _) (by simp)⟩

theorem and7 (n : Int) : bits .and .i64 n 7 = n % 8 := by
  show IntKind.i64.wrap ((BitVec.ofInt 64 n &&& BitVec.ofInt 64 7).toNat : Int) = _
  have h7 : (BitVec.ofInt 64 7).toNat = 2 ^ 3 - 1 := by decide
  rw [BitVec.toNat_and, h7, Nat.and_two_pow_sub_one_eq_mod, BitVec.toNat_ofInt, IntKind.wrap_i64]
  simp only [Nat.reducePow]
  omega
theorem chapL_mod (a b : Int) (s c : List UInt8) (h : a % 256 = b % 256) : chapL a s c = chapL b s c := by unfold chapL; rw [h]

set_option maxHeartbeats 1000000 in
theorem digestChap_small (w : World) (id : Int) (i0 : -9223372036854775808 ≤ id) (i1 : id ≤ 9223372036854775807) (s c a b : List UInt8) (h : s.length + c.length + a.length + b.length ≤ 6000) :
    Calls Try.prog 7 #[.int .i64 id, .string (B s), .string (B c), .string (B a), .string (B b)] w fun e w' => e = .returned (.bool true) ∧ Below w.heap.size w w' := by
  have h1 : ¬ (6000 : Int) < (s.length : Int) + c.length + a.length + b.length := by omega
  have ls : s.length ≤ 40000 := by omega
  have lc : c.length ≤ 40000 := by omega
  have la : a.length ≤ 140737488351232 := by omega
  have lb : b.length ≤ 140737488351232 := by omega
  have a7 := and7 id
  obtain ⟨r, hr⟩ : ∃ r, id % 8 = r := ⟨_, rfl⟩
  have r0 : 0 ≤ r := by omega
  have r1 : r < 8 := by omega
  rw [hr] at a7
  obtain ⟨J, hJ⟩ : ∃ J, wrap64 (id + 256 * r) = J := ⟨_, rfl⟩
  have hm : J % 256 = id % 256 := by rw [← hJ]; unfold wrap64; omega
  have hC := chapL_mod J id s c hm
  have m16 := md5_length (chapL id s c)
  obtain ⟨D, hD⟩ : ∃ D, md5 (chapL id s c) = D := ⟨_, rfl⟩
  rw [hD] at m16
  have m16' : (D.length : Int) = 16 := by omega
  have hid := Lib.hid (And.intro i0 i1)
  have HD := Lib.hid hD
  have HC := Lib.hid hC
  have saa : sameB a a = true := sameB_eq rfl
  clear hr hm hD hC i0 i1 h
  by_cases hab : a = b
  · subst hab
    go_enter Try.func7, Try.ntmps7
    go_wp2_with fail
    refine (chap_any id s c _ ls lc).mono ?_
    rw [HD.out]
    rintro e w1 ⟨rfl, hF1⟩
    go_wp2_with fail
    refine (alive2 _).mono ?_
    rintro e w2 ⟨rfl, hF2⟩
    go_wp2_with fail
    refine (rchap_any id s c _ hid.out.1 hid.out.2 ls lc).mono ?_
    rw [HD.out]
    rintro e w3 ⟨rfl, hF3⟩
    go_wp2_with fail
    refine (chap_any _ s c _ ls lc).mono ?_
    rw [HC.out, HD.out]
    rintro e w4 ⟨rfl, hF4⟩
    go_wp2_with (go_at_call 22; refine (same_b _ _ _ (by assumption) (by assumption)).mono ?_; rintro e w' ⟨rfl, n, rfl⟩)
    go_ret
    exact ⟨rfl, ((((hF1.trans hF2).trans hF3).trans hF4).drewN _).below (Nat.le_refl _) (by simp)⟩
  · have sab : sameB a b = false := sameB_ne hab
    have hab2 : (a == b) = false := by simpa using hab
    go_enter Try.func7, Try.ntmps7
    go_wp2_with fail
    refine (chap_any id s c _ ls lc).mono ?_
    rw [HD.out]
    rintro e w1 ⟨rfl, hF1⟩
    go_wp2_with fail
    refine (alive2 _).mono ?_
    rintro e w2 ⟨rfl, hF2⟩
    go_wp2_with fail
    refine (rchap_any id s c _ hid.out.1 hid.out.2 ls lc).mono ?_
    rw [HD.out]
    rintro e w3 ⟨rfl, hF3⟩
    go_wp2_with fail
    refine (chap_any _ s c _ ls lc).mono ?_
    rw [HC.out, HD.out]
    rintro e w4 ⟨rfl, hF4⟩
    go_wp2_with (go_at_call 22; refine (same_b _ _ _ (by assumption) (by assumption)).mono ?_; rintro e w' ⟨rfl, n, rfl⟩)
    go_ret
    exact ⟨rfl, ((((hF1.trans hF2).trans hF3).trans hF4).drewN _).below (Nat.le_refl _) (by simp)⟩

theorem digestChap_big (w : World) (id : Int) (s c a b : List UInt8) (h : 6000 < s.length + c.length + a.length + b.length) (hs : s.length ≤ 140737488351232) (hc : c.length ≤ 140737488351232) (ha : a.length ≤ 140737488351232) (hb : b.length ≤ 140737488351232) :
    Calls Try.prog 7 #[.int .i64 id, .string (B s), .string (B c), .string (B a), .string (B b)] w fun e w' => e = .returned (.bool true) ∧ Below w.heap.size w w' := by
  have h1 : (6000 : Int) < (s.length : Int) + c.length + a.length + b.length := by omega
  clear h
  go_enter Try.func7, Try.ntmps7
  go_wp2_with fail
  refine (alive2 _).mono ?_
  rintro e w1 ⟨rfl, hF⟩
  go_wp2
  go_ret
  exact ⟨rfl, hF.below (Nat.le_refl _) (by simp)⟩
theorem digestChap_walk (w : World) (id : Int) (i0 : -9223372036854775808 ≤ id) (i1 : id ≤ 9223372036854775807) (s : ByteArray) (hs : s.size ≤ 140737488351232) (t : ByteArray) (ht : t.size ≤ 140737488351232) (u : ByteArray) (hu : u.size ≤ 140737488351232) (v : ByteArray) (hv : v.size ≤ 140737488351232) :
    Calls Try.prog 7 #[.int .i64 id, .string s, .string t, .string u, .string v] w fun e w' => e = .returned (.bool true) ∧ Below w.heap.size w w' := by
  obtain ⟨a, rfl⟩ : ∃ l, s = B l := ⟨_, B_of s⟩
  obtain ⟨b, rfl⟩ : ∃ l, t = B l := ⟨_, B_of t⟩
  obtain ⟨c, rfl⟩ : ∃ l, u = B l := ⟨_, B_of u⟩
  obtain ⟨d, rfl⟩ : ∃ l, v = B l := ⟨_, B_of v⟩
  rw [B_size] at hs ht hu hv
  by_cases h : 6000 < a.length + b.length + c.length + d.length
  · exact digestChap_big w id a b c d h hs ht hu hv
  · exact digestChap_small w id i0 i1 a b c d (by omega)
end Go.Proofs.Ytgeoldcddfmgnaa
