/- CookieTells, walked. -/
import Derived.Test.YtgeoldcddfmgnaaAlive6
namespace Go.Proofs.Ytgeoldcddfmgnaa
open Go.RowKit
set_option linter.unusedVariables false
attribute [local go_sem ↓] Go.wp_at_zero Go.wp_at_succ

set_option maxHeartbeats 4000000 in
theorem cookieTells_small (w : World) (s : List UInt8) (m0 m1 m2 m3 m4 m5 : Int) (v c : List UInt8) (t : Int) (t0 : -9223372036854775808 ≤ t) (t1 : t ≤ 9223372036854775807) (h : s.length + v.length + c.length ≤ 3000) :
    Calls Try.prog 8 #[.string (B s), .agg #[.int .u8 m0, .int .u8 m1, .int .u8 m2, .int .u8 m3, .int .u8 m4, .int .u8 m5], .string (B v), .string (B c), .int .i64 t] w fun e w' => e = .returned (.bool true) ∧ Below w.heap.size w w' := by
  have h1 : ¬ (3000 : Int) < (s.length : Int) + v.length + c.length := by omega
  have ls : s.length ≤ 40000 := by omega
  have lv : v.length ≤ 40000 := by omega
  have lc : c.length ≤ 40000 := by omega
  obtain ⟨D, hD⟩ : ∃ D, md5 (cookL (t / 64) [m0, m1, m2, m3, m4, m5] v s) = D := ⟨_, rfl⟩
  obtain ⟨b, hb⟩ : ∃ b, (sameB c (md5 (cookL (t / 64 - 1) [m0, m1, m2, m3, m4, m5] v s)) || sameB c (md5 (cookL (t / 64) [m0, m1, m2, m3, m4, m5] v s))) = b := ⟨_, rfl⟩
  have M : ∀ W, Calls Try.prog 26 #[.string (B s), .agg #[.int .u8 m0, .int .u8 m1, .int .u8 m2, .int .u8 m3, .int .u8 m4, .int .u8 m5], .string (B v), .int .i64 t] W fun r w' => r = .returned (.string (B D)) ∧ Fr [] W w' := fun W => by rw [← hD]; exact make_any s m0 m1 m2 m3 m4 m5 v t W t0 t1 ls lv
  have RM : ∀ W, Calls Try.prog 27 #[.string (B s), .agg #[.int .u8 m0, .int .u8 m1, .int .u8 m2, .int .u8 m3, .int .u8 m4, .int .u8 m5], .string (B v), .int .i64 t] W fun r w' => r = .returned (.string (B D)) ∧ Fr [] W w' := fun W => by rw [← hD]; exact rmake_any s m0 m1 m2 m3 m4 m5 v t W t0 t1 ls lv
  have K : ∀ W, Calls Try.prog 28 #[.string (B s), .agg #[.int .u8 m0, .int .u8 m1, .int .u8 m2, .int .u8 m3, .int .u8 m4, .int .u8 m5], .string (B v), .string (B c), .int .i64 t] W fun r w' => r = .returned (.bool b) ∧ Fr [] W w' := fun W => by rw [← hb]; exact check_any s m0 m1 m2 m3 m4 m5 v c t W t0 t1 ls lv lc
  have RK : ∀ W, Calls Try.prog 29 #[.string (B s), .agg #[.int .u8 m0, .int .u8 m1, .int .u8 m2, .int .u8 m3, .int .u8 m4, .int .u8 m5], .string (B v), .string (B c), .int .i64 t] W fun r w' => r = .returned (.bool b) ∧ Fr [] W w' := fun W => by rw [← hb]; exact rcheck_any s m0 m1 m2 m3 m4 m5 v c t W t0 t1 ls lv lc
  have M' := Lib.hid M
  have RM' := Lib.hid RM
  have K' := Lib.hid K
  have RK' := Lib.hid RK
  clear M RM K RK hD hb
  go_enter Try.func8, Try.ntmps8
  go_wp2_with fail
  obtain ⟨W, hW⟩ : ∃ W, w.alloc (.cells #[.int .u8 m0, .int .u8 m1, .int .u8 m2, .int .u8 m3, .int .u8 m4, .int .u8 m5] 35) = W := ⟨_, rfl⟩
  have hB : Blk W w.heap.size #[.int .u8 m0, .int .u8 m1, .int .u8 m2, .int .u8 m3, .int .u8 m4, .int .u8 m5] 35 := by rw [← hW]; exact Blk.new _ _ _
  have hF : Fr [] w W := by rw [← hW]; exact (Fr.refl _ _).alloc _
  rw [hW]
  clear hW
  have hG : CkS w m0 m1 m2 m3 m4 m5 W.drew := CkS.mk hB.drew hF.drew
  go_region_held3 (fun w' => w'.cell? ⟨w.heap.size, 0, none⟩ = some (.int .u8 m0) ∧ w'.cell? ⟨w.heap.size, 1, none⟩ = some (.int .u8 m1) ∧ w'.cell? ⟨w.heap.size, 2, none⟩ = some (.int .u8 m2) ∧ w'.cell? ⟨w.heap.size, 3, none⟩ = some (.int .u8 m3) ∧ w'.cell? ⟨w.heap.size, 4, none⟩ = some (.int .u8 m4) ∧ w'.cell? ⟨w.heap.size, 5, none⟩ = some (.int .u8 m5) ∧ Blk w' w.heap.size #[.int .u8 m0, .int .u8 m1, .int .u8 m2, .int .u8 m3, .int .u8 m4, .int .u8 m5] 35 ∧ Fr [] w w')
    (first | exact hG | assumption | exact CkS.call (by assumption) (by assumption))
    (first
      | (go_at_call 25; ((with_reducible refine (alive6 _).mono ?_); rintro r w3 ⟨rfl, hF3⟩))
      | (go_at_call 26; ((with_reducible refine (M'.out _).mono ?_); rintro r w3 ⟨rfl, hF3⟩))
      | (go_at_call 27; ((with_reducible refine (RM'.out _).mono ?_); rintro r w3 ⟨rfl, hF3⟩))
      | (go_at_call 28; ((with_reducible refine (K'.out _).mono ?_); rintro r w3 ⟨rfl, hF3⟩))
      | (go_at_call 29; ((with_reducible refine (RK'.out _).mono ?_); rintro r w3 ⟨rfl, hF3⟩))
      | (go_at_call 30; refine (epoch_any t _ t0 t1).mono ?_; rintro r w3 ⟨rfl, rfl⟩)
      | (go_at_call 31; refine (repoch_any t _ t0 t1).mono ?_; rintro r w3 ⟨rfl, rfl⟩))
  all_goals
    have hfin : Fr [] w w3 := by go_split_ands; assumption
    clear M' RM' K' RK' hG hB hF
    go_wp2_with fail
    go_ret
    exact ⟨rfl, hfin.below (Nat.le_refl _) (by simp)⟩

set_option maxHeartbeats 1000000 in
theorem cookieTells_walk (w : World) (s : ByteArray) (hs : s.size ≤ 140737488351232) (m0 m1 m2 m3 m4 m5 : Int) (v : ByteArray) (hv : v.size ≤ 140737488351232) (c : ByteArray) (hc : c.size ≤ 140737488351232) (t : Int) (t0 : -9223372036854775808 ≤ t) (t1 : t ≤ 9223372036854775807) :
    Calls Try.prog 8 #[.string s, .agg #[.int .u8 m0, .int .u8 m1, .int .u8 m2, .int .u8 m3, .int .u8 m4, .int .u8 m5], .string v, .string c, .int .i64 t] w fun e w' => e = .returned (.bool true) ∧ Below w.heap.size w w' := by
  obtain ⟨s, rfl⟩ : ∃ l, s = B l := ⟨_, B_of s⟩
  obtain ⟨v, rfl⟩ : ∃ l, v = B l := ⟨_, B_of v⟩
  obtain ⟨c, rfl⟩ : ∃ l, c = B l := ⟨_, B_of c⟩
  rw [B_size] at hs hv hc
  by_cases h : 3000 < s.length + v.length + c.length
  · have h1 : (3000 : Int) < (s.length : Int) + v.length + c.length := by omega
    go_enter Try.func8, Try.ntmps8
    go_wp2_with fail
    refine (alive6 _).mono ?_
    rintro e w1 ⟨rfl, hF⟩
    go_wp2
    go_ret
    exact ⟨rfl, ((Fr.refl _ _).alloc _ |>.trans hF).below (Nat.le_refl _) (by simp)⟩
  · exact cookieTells_small w s m0 m1 m2 m3 m4 m5 v c t t0 t1 (by omega)
end Go.Proofs.Ytgeoldcddfmgnaa
