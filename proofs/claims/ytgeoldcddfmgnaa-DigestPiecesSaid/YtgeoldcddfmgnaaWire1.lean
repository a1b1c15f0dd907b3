import Derived.Test.YtgeoldcddfmgnaaStr
namespace Go.Proofs.Ytgeoldcddfmgnaa
open Go.RowKit
set_option linter.unusedVariables false

def inB (n l m : Int) : Bool := decide (l ≤ n ∧ n ≤ m)
theorem in_any (n l m : Int) (w : World) :
    Calls Try.prog 47 #[.int .i64 n, .int .i64 l, .int .i64 m] w fun e w' => e = .returned (.bool (inB n l m)) ∧ w = w' := by
  by_cases h : l ≤ n
  · go_enter Try.func47, Try.ntmps47
    go_wp2
    go_ret
    exact ⟨rbool (by simp [inB, h]), rfl⟩
  · have hd : decide (l ≤ n) = false := by simpa using h
    go_enter Try.func47, Try.ntmps47
    go_wp2
    go_ret
    exact ⟨rbool (by simp [inB]; omega), rfl⟩

/-- a number's n lowest bytes, the highest of them first -/
def be : Nat → Int → List UInt8
  | 0, _ => []
  | n + 1, v => be n (v / 256) ++ [UInt8.ofNat (v % 256).toNat]
theorem be_length (n : Nat) (v : Int) : (be n v).length = n := by
  induction n generalizing v with
  | zero => rfl
  | succ n ih => simp [be, ih]
def putOk (v n : Int) : Bool := decide (1 ≤ n ∧ n ≤ 4 ∧ 0 ≤ v ∧ v < 256 ^ n.toNat)

theorem put_1 (v : Int) (w : World) (h0 : 0 ≤ v) (h1 : v < 256) :
    Calls Try.prog 36 #[.int .i64 v, .int .i64 1] w fun e w' => e = .returned (.tuple #[.string (B (be 1 v)), .int .i64 0]) ∧ Fr [] w w' := by
  have hmk : ∀ w, (Instr.makeSlice 46 (.int .i64 1) (.int .i64 1)).run Try.prog w = .ok (.slice (some ⟨w.heap.size, 0, none⟩) 1 1) (w.alloc (.cells #[.int .u8 0] 5)) := fun _ => by kernel_rfl
  have hz : (v / 256 != 0) = false := by simp; omega
  have hcv : (convert 46 9 (.slice (some ⟨w.heap.size, 0, none⟩) 1 1)).run Try.prog (w.alloc (.cells #[.int .u8 (v)] 5)) = .ok (.string (B (bytesOf [v]))) (w.alloc (.cells #[.int .u8 (v)] 5)) :=
    run_str Try.underlying46 Try.underlying5 Try.underlying9 [v] (Blk.new _ _ _) 1 rfl
  go_enter Try.func36, Try.ntmps36
  go_wp2_with fail
  refine (in_any _ _ _ _).mono ?_
  rintro e w1 ⟨rfl, rfl⟩
  have hi : inB 1 1 4 = true := rfl
  go_wp2
  refine wp_loop_rounds 2 ?_
  rw [rounds_succ]; go_wp2
  rw [rounds_succ]; go_wp2
  go_ret2
  refine ⟨?_, (Fr.refl _ _).alloc _⟩
  have e : be 1 v = bytesOf [v] := by
    simp only [be, bytesOf, List.map, List.nil_append]
    rw [show v % 256 = v from by omega]
  rw [e]; rfl

theorem put_2 (v : Int) (w : World) (h0 : 0 ≤ v) (h1 : v < 65536) :
    Calls Try.prog 36 #[.int .i64 v, .int .i64 2] w fun e w' => e = .returned (.tuple #[.string (B (be 2 v)), .int .i64 0]) ∧ Fr [] w w' := by
  have hmk : ∀ w, (Instr.makeSlice 46 (.int .i64 2) (.int .i64 2)).run Try.prog w = .ok (.slice (some ⟨w.heap.size, 0, none⟩) 2 2) (w.alloc (.cells #[.int .u8 0, .int .u8 0] 5)) := fun _ => by kernel_rfl
  have hz : (v / 65536 != 0) = false := by simp; omega
  have hcv : (convert 46 9 (.slice (some ⟨w.heap.size, 0, none⟩) 2 2)).run Try.prog (w.alloc (.cells #[.int .u8 (v / 256), .int .u8 (v % 256)] 5)) = .ok (.string (B (bytesOf [v / 256, v % 256]))) (w.alloc (.cells #[.int .u8 (v / 256), .int .u8 (v % 256)] 5)) :=
    run_str Try.underlying46 Try.underlying5 Try.underlying9 [v / 256, v % 256] (Blk.new _ _ _) 2 rfl
  go_enter Try.func36, Try.ntmps36
  go_wp2_with fail
  refine (in_any _ _ _ _).mono ?_
  rintro e w1 ⟨rfl, rfl⟩
  have hi : inB 2 1 4 = true := rfl
  go_wp2
  refine wp_loop_rounds 3 ?_
  rw [rounds_succ]; go_wp2
  rw [rounds_succ]; go_wp2
  rw [rounds_succ]; go_wp2
  go_ret2
  refine ⟨?_, (Fr.refl _ _).alloc _⟩
  have e : be 2 v = bytesOf [v / 256, v % 256] := by
    simp only [be, bytesOf, List.map, List.nil_append, List.cons_append]
    rw [show v / 256 % 256 = v / 256 from by omega]
  rw [e]; rfl

theorem put_3 (v : Int) (w : World) (h0 : 0 ≤ v) (h1 : v < 16777216) :
    Calls Try.prog 36 #[.int .i64 v, .int .i64 3] w fun e w' => e = .returned (.tuple #[.string (B (be 3 v)), .int .i64 0]) ∧ Fr [] w w' := by
  have hmk : ∀ w, (Instr.makeSlice 46 (.int .i64 3) (.int .i64 3)).run Try.prog w = .ok (.slice (some ⟨w.heap.size, 0, none⟩) 3 3) (w.alloc (.cells #[.int .u8 0, .int .u8 0, .int .u8 0] 5)) := fun _ => by kernel_rfl
  have hz : (v / 16777216 != 0) = false := by simp; omega
  have hcv : (convert 46 9 (.slice (some ⟨w.heap.size, 0, none⟩) 3 3)).run Try.prog (w.alloc (.cells #[.int .u8 (v / 65536), .int .u8 (v / 256 % 256), .int .u8 (v % 256)] 5)) = .ok (.string (B (bytesOf [v / 65536, v / 256 % 256, v % 256]))) (w.alloc (.cells #[.int .u8 (v / 65536), .int .u8 (v / 256 % 256), .int .u8 (v % 256)] 5)) :=
    run_str Try.underlying46 Try.underlying5 Try.underlying9 [v / 65536, v / 256 % 256, v % 256] (Blk.new _ _ _) 3 rfl
  go_enter Try.func36, Try.ntmps36
  go_wp2_with fail
  refine (in_any _ _ _ _).mono ?_
  rintro e w1 ⟨rfl, rfl⟩
  have hi : inB 3 1 4 = true := rfl
  go_wp2
  refine wp_loop_rounds 4 ?_
  rw [rounds_succ]; go_wp2
  rw [rounds_succ]; go_wp2
  rw [rounds_succ]; go_wp2
  rw [rounds_succ]; go_wp2
  go_ret2
  refine ⟨?_, (Fr.refl _ _).alloc _⟩
  have e : be 3 v = bytesOf [v / 65536, v / 256 % 256, v % 256] := by
    simp only [be, bytesOf, List.map, List.nil_append, List.cons_append]
    rw [show v / 256 / 256 % 256 = v / 65536 from by omega]
  rw [e]; rfl

theorem put_4 (v : Int) (w : World) (h0 : 0 ≤ v) (h1 : v < 4294967296) :
    Calls Try.prog 36 #[.int .i64 v, .int .i64 4] w fun e w' => e = .returned (.tuple #[.string (B (be 4 v)), .int .i64 0]) ∧ Fr [] w w' := by
  have hmk : ∀ w, (Instr.makeSlice 46 (.int .i64 4) (.int .i64 4)).run Try.prog w = .ok (.slice (some ⟨w.heap.size, 0, none⟩) 4 4) (w.alloc (.cells #[.int .u8 0, .int .u8 0, .int .u8 0, .int .u8 0] 5)) := fun _ => by kernel_rfl
  have hz : (v / 4294967296 != 0) = false := by simp; omega
  have hcv : (convert 46 9 (.slice (some ⟨w.heap.size, 0, none⟩) 4 4)).run Try.prog (w.alloc (.cells #[.int .u8 (v / 16777216), .int .u8 (v / 65536 % 256), .int .u8 (v / 256 % 256), .int .u8 (v % 256)] 5)) = .ok (.string (B (bytesOf [v / 16777216, v / 65536 % 256, v / 256 % 256, v % 256]))) (w.alloc (.cells #[.int .u8 (v / 16777216), .int .u8 (v / 65536 % 256), .int .u8 (v / 256 % 256), .int .u8 (v % 256)] 5)) :=
    run_str Try.underlying46 Try.underlying5 Try.underlying9 [v / 16777216, v / 65536 % 256, v / 256 % 256, v % 256] (Blk.new _ _ _) 4 rfl
  go_enter Try.func36, Try.ntmps36
  go_wp2_with fail
  refine (in_any _ _ _ _).mono ?_
  rintro e w1 ⟨rfl, rfl⟩
  have hi : inB 4 1 4 = true := rfl
  go_wp2
  refine wp_loop_rounds 5 ?_
  rw [rounds_succ]; go_wp2
  rw [rounds_succ]; go_wp2
  rw [rounds_succ]; go_wp2
  rw [rounds_succ]; go_wp2
  rw [rounds_succ]; go_wp2
  go_ret2
  refine ⟨?_, (Fr.refl _ _).alloc _⟩
  have e : be 4 v = bytesOf [v / 16777216, v / 65536 % 256, v / 256 % 256, v % 256] := by
    simp only [be, bytesOf, List.map, List.nil_append, List.cons_append]
    rw [show v / 256 / 256 / 256 % 256 = v / 16777216 from by omega, show v / 256 / 256 % 256 = v / 65536 % 256 from by omega]
  rw [e]; rfl

theorem put_no (v n : Int) (w : World) (h : putOk v n = false) (hv : v ≤ 9223372036854775807) :
    Calls Try.prog 36 #[.int .i64 v, .int .i64 n] w fun e w' => e = .returned (.tuple #[.string (B []), .int .i64 1]) ∧ w = w' := by
  simp only [putOk, decide_eq_false_iff_not] at h
  by_cases hn : 1 ≤ n ∧ n ≤ 4
  · have hi : inB n 1 4 = true := by simp [inB]; omega
    by_cases hneg : v < 0
    · clear hn h
      go_enter Try.func36, Try.ntmps36
      go_wp2_with fail
      refine (in_any _ _ _ _).mono ?_
      rintro e w1 ⟨rfl, rfl⟩
      go_wp2
      go_ret2
      exact ⟨rfl, rfl⟩
    · obtain rfl | rfl | rfl | rfl : n = 1 ∨ n = 2 ∨ n = 3 ∨ n = 4 := by omega
      · have hz : (v / 256 != 0) = true := by simp at h ⊢; omega
        clear hn h
        go_enter Try.func36, Try.ntmps36
        go_wp2_with fail
        refine (in_any _ _ _ _).mono ?_
        rintro e w1 ⟨rfl, rfl⟩
        go_wp2
        go_ret2
        exact ⟨rfl, rfl⟩
      · have hz : (v / 65536 != 0) = true := by simp at h ⊢; omega
        clear hn h
        go_enter Try.func36, Try.ntmps36
        go_wp2_with fail
        refine (in_any _ _ _ _).mono ?_
        rintro e w1 ⟨rfl, rfl⟩
        go_wp2
        go_ret2
        exact ⟨rfl, rfl⟩
      · have hz : (v / 16777216 != 0) = true := by simp at h ⊢; omega
        clear hn h
        go_enter Try.func36, Try.ntmps36
        go_wp2_with fail
        refine (in_any _ _ _ _).mono ?_
        rintro e w1 ⟨rfl, rfl⟩
        go_wp2
        go_ret2
        exact ⟨rfl, rfl⟩
      · have hz : (v / 4294967296 != 0) = true := by simp at h ⊢; omega
        clear hn h
        go_enter Try.func36, Try.ntmps36
        go_wp2_with fail
        refine (in_any _ _ _ _).mono ?_
        rintro e w1 ⟨rfl, rfl⟩
        go_wp2
        go_ret2
        exact ⟨rfl, rfl⟩
  · have hi : inB n 1 4 = false := by simp [inB]; omega
    clear hn h
    go_enter Try.func36, Try.ntmps36
    go_wp2_with fail
    refine (in_any _ _ _ _).mono ?_
    rintro e w1 ⟨rfl, rfl⟩
    go_wp2
    go_ret2
    exact ⟨rfl, rfl⟩

theorem put_ok (v n : Int) (w : World) (h : putOk v n = true) :
    Calls Try.prog 36 #[.int .i64 v, .int .i64 n] w fun e w' => e = .returned (.tuple #[.string (B (be n.toNat v)), .int .i64 0]) ∧ Fr [] w w' := by
  simp only [putOk, decide_eq_true_eq] at h
  obtain ⟨h1, h2, h3, h4⟩ := h
  obtain rfl | rfl | rfl | rfl : n = 1 ∨ n = 2 ∨ n = 3 ∨ n = 4 := by omega
  · exact put_1 v w h3 h4
  · exact put_2 v w h3 h4
  · exact put_3 v w h3 h4
  · exact put_4 v w h3 h4

end Go.Proofs.Ytgeoldcddfmgnaa
