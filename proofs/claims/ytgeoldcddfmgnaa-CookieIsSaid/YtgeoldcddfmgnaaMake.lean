/- Cookies made and checked: the program's and the document's. -/
import Derived.Test.YtgeoldcddfmgnaaRCookie
namespace Go.Proofs.Ytgeoldcddfmgnaa
open Go.RowKit
set_option linter.unusedVariables false

def CkS (w0 : World) (m0 m1 m2 m3 m4 m5 : Int) (w1 : World) : Prop :=
  w1.cell? ⟨w0.heap.size, 0, none⟩ = some (.int .u8 m0) ∧ w1.cell? ⟨w0.heap.size, 1, none⟩ = some (.int .u8 m1) ∧ w1.cell? ⟨w0.heap.size, 2, none⟩ = some (.int .u8 m2) ∧ w1.cell? ⟨w0.heap.size, 3, none⟩ = some (.int .u8 m3) ∧ w1.cell? ⟨w0.heap.size, 4, none⟩ = some (.int .u8 m4) ∧ w1.cell? ⟨w0.heap.size, 5, none⟩ = some (.int .u8 m5) ∧ Blk w1 w0.heap.size #[.int .u8 m0, .int .u8 m1, .int .u8 m2, .int .u8 m3, .int .u8 m4, .int .u8 m5] 35 ∧ Fr [] w0 w1
theorem CkS.mk {w0 w1 : World} {m0 m1 m2 m3 m4 m5 : Int} (h : Blk w1 w0.heap.size #[.int .u8 m0, .int .u8 m1, .int .u8 m2, .int .u8 m3, .int .u8 m4, .int .u8 m5] 35) (k : Fr [] w0 w1) : CkS w0 m0 m1 m2 m3 m4 m5 w1 :=
  ⟨h.c 0 _ rfl, h.c 1 _ rfl, h.c 2 _ rfl, h.c 3 _ rfl, h.c 4 _ rfl, h.c 5 _ rfl, h, k⟩
theorem CkS.call {w0 w1 w2 : World} {m0 m1 m2 m3 m4 m5 : Int} (h : CkS w0 m0 m1 m2 m3 m4 m5 w1) (k : Fr [] w1 w2) : CkS w0 m0 m1 m2 m3 m4 m5 w2 :=
  CkS.mk (k.blk h.2.2.2.2.2.2.1 (by simp)) (h.2.2.2.2.2.2.2.trans k)

set_option maxHeartbeats 1000000 in
theorem make_any (s : List UInt8) (m0 m1 m2 m3 m4 m5 : Int) (v : List UInt8) (t : Int) (w : World) (t0 : -9223372036854775808 ≤ t) (t1 : t ≤ 9223372036854775807) (hs : s.length ≤ 40000) (hv : v.length ≤ 40000) :
    Calls Try.prog 26 #[.string (B s), .agg #[.int .u8 m0, .int .u8 m1, .int .u8 m2, .int .u8 m3, .int .u8 m4, .int .u8 m5], .string (B v), .int .i64 t] w
      fun r w' => r = .returned (.string (B (md5 (cookL (t / 64) [m0, m1, m2, m3, m4, m5] v s)))) ∧ Fr [] w w' := by
  have e0 : -9223372036854775808 ≤ t / 64 := by omega
  have e1 : t / 64 ≤ 9223372036854775807 := by omega
  go_enter Try.func26, Try.ntmps26
  go_wp2_with fail
  obtain ⟨W, hW⟩ : ∃ W, w.alloc (.cells #[.int .u8 m0, .int .u8 m1, .int .u8 m2, .int .u8 m3, .int .u8 m4, .int .u8 m5] 35) = W := ⟨_, rfl⟩
  have hB : Blk W w.heap.size #[.int .u8 m0, .int .u8 m1, .int .u8 m2, .int .u8 m3, .int .u8 m4, .int .u8 m5] 35 := by rw [← hW]; exact Blk.new _ _ _
  have hF : Fr [] w W := by rw [← hW]; exact (Fr.refl _ _).alloc _
  rw [hW]
  clear hW
  have hG : CkS w m0 m1 m2 m3 m4 m5 W.drew := CkS.mk hB.drew hF.drew
  go_region_held3 (fun w' => w'.cell? ⟨w.heap.size, 0, none⟩ = some (.int .u8 m0) ∧ w'.cell? ⟨w.heap.size, 1, none⟩ = some (.int .u8 m1) ∧ w'.cell? ⟨w.heap.size, 2, none⟩ = some (.int .u8 m2) ∧ w'.cell? ⟨w.heap.size, 3, none⟩ = some (.int .u8 m3) ∧ w'.cell? ⟨w.heap.size, 4, none⟩ = some (.int .u8 m4) ∧ w'.cell? ⟨w.heap.size, 5, none⟩ = some (.int .u8 m5) ∧ Blk w' w.heap.size #[.int .u8 m0, .int .u8 m1, .int .u8 m2, .int .u8 m3, .int .u8 m4, .int .u8 m5] 35 ∧ Fr [] w w')
    (first | exact hG | assumption | exact CkS.call (by assumption) (by assumption))
    (first
      | (go_at_call 30; refine (epoch_any t _ t0 t1).mono ?_; rintro r w3 ⟨rfl, rfl⟩)
      | (go_at_call 41; refine (of_any s m0 m1 m2 m3 m4 m5 v (t / 64) _ e0 e1 hs hv).mono ?_; rintro r w3 ⟨rfl, hF3⟩))
  all_goals (go_wp2; go_ret; exact ⟨rfl, by go_split_ands; assumption⟩)
set_option maxHeartbeats 1000000 in
theorem rmake_any (s : List UInt8) (m0 m1 m2 m3 m4 m5 : Int) (v : List UInt8) (t : Int) (w : World) (t0 : -9223372036854775808 ≤ t) (t1 : t ≤ 9223372036854775807) (hs : s.length ≤ 40000) (hv : v.length ≤ 40000) :
    Calls Try.prog 27 #[.string (B s), .agg #[.int .u8 m0, .int .u8 m1, .int .u8 m2, .int .u8 m3, .int .u8 m4, .int .u8 m5], .string (B v), .int .i64 t] w
      fun r w' => r = .returned (.string (B (md5 (cookL (t / 64) [m0, m1, m2, m3, m4, m5] v s)))) ∧ Fr [] w w' := by
  have e0 : -9223372036854775808 ≤ t / 64 := by omega
  have e1 : t / 64 ≤ 9223372036854775807 := by omega
  go_enter Try.func27, Try.ntmps27
  go_wp2_with fail
  obtain ⟨W, hW⟩ : ∃ W, w.alloc (.cells #[.int .u8 m0, .int .u8 m1, .int .u8 m2, .int .u8 m3, .int .u8 m4, .int .u8 m5] 35) = W := ⟨_, rfl⟩
  have hB : Blk W w.heap.size #[.int .u8 m0, .int .u8 m1, .int .u8 m2, .int .u8 m3, .int .u8 m4, .int .u8 m5] 35 := by rw [← hW]; exact Blk.new _ _ _
  have hF : Fr [] w W := by rw [← hW]; exact (Fr.refl _ _).alloc _
  rw [hW]
  clear hW
  have hG : CkS w m0 m1 m2 m3 m4 m5 W.drew := CkS.mk hB.drew hF.drew
  go_region_held3 (fun w' => w'.cell? ⟨w.heap.size, 0, none⟩ = some (.int .u8 m0) ∧ w'.cell? ⟨w.heap.size, 1, none⟩ = some (.int .u8 m1) ∧ w'.cell? ⟨w.heap.size, 2, none⟩ = some (.int .u8 m2) ∧ w'.cell? ⟨w.heap.size, 3, none⟩ = some (.int .u8 m3) ∧ w'.cell? ⟨w.heap.size, 4, none⟩ = some (.int .u8 m4) ∧ w'.cell? ⟨w.heap.size, 5, none⟩ = some (.int .u8 m5) ∧ Blk w' w.heap.size #[.int .u8 m0, .int .u8 m1, .int .u8 m2, .int .u8 m3, .int .u8 m4, .int .u8 m5] 35 ∧ Fr [] w w')
    (first | exact hG | assumption | exact CkS.call (by assumption) (by assumption))
    (first
      | (go_at_call 31; refine (repoch_any t _ t0 t1).mono ?_; rintro r w3 ⟨rfl, rfl⟩)
      | (go_at_call 42; refine (rcookie_any s m0 m1 m2 m3 m4 m5 v (t / 64) _ e0 e1 hs hv).mono ?_; rintro r w3 ⟨rfl, hF3⟩))
  all_goals (go_wp2; go_ret; exact ⟨rfl, by go_split_ands; assumption⟩)
end Go.Proofs.Ytgeoldcddfmgnaa
