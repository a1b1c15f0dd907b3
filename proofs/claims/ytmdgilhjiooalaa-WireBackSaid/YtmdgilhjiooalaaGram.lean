/- Datagrams; a protocol's data read by the reference. -/
import Derived.Test.YtmdgilhjiooalaaFrames
import Derived.Deep.RegionHeld3
namespace Go.Proofs.Ytmdgilhjiooalaa
open Go.RowKit
set_option linter.unusedVariables false

/-- what a region that lays a datagram holds: the three fields' cells, and the frame -/
def GS (w0 : World) (g : Nat) (C : Array Value) (T : Nat) (a b c : Value) (w1 : World) : Prop := Blk w1 g C T ∧ w1.cell? ⟨g, 0, none⟩ = some a ∧ w1.cell? ⟨g, 1, none⟩ = some b ∧ w1.cell? ⟨g, 2, none⟩ = some c ∧ Fr [] w0 w1
theorem GS.mk {w0 w1 : World} {g T : Nat} {C : Array Value} {a b c : Value} (hC : Hid (C = #[a, b, c])) (hB : Blk w1 g C T) (hF : Fr [] w0 w1) : GS w0 g C T a b c w1 :=
  ⟨hB, hB.c 0 a (by rw [hC.out]; rfl), hB.c 1 b (by rw [hC.out]; rfl), hB.c 2 c (by rw [hC.out]; rfl), hF⟩
theorem GS.call {w0 w1 w2 : World} {g T : Nat} {C : Array Value} {a b c : Value} (hC : Hid (C = #[a, b, c])) (h : GS w0 g C T a b c w1) (k : Fr [] w1 w2) : GS w0 g C T a b c w2 :=
  GS.mk hC (k.blk h.1 (by simp)) (h.2.2.2.2.trans k)

def graE (f t : Int) (d : List UInt8) : Int := if (f < 0 ∨ 65535 < f) ∨ (t < 0 ∨ 65535 < t) then 1 else if 1500 < d.length then 2 else 0
def graL (f t : Int) (d : List UInt8) : List UInt8 := if graE f t d = 0 then sealL (be 2 f ++ (be 2 t ++ (be 2 d.length ++ d))) else []

set_option maxHeartbeats 2000000 in
theorem putgram_ok (f t : Int) (d : List UInt8) (w : World) (f0 : 0 ≤ f) (f1 : f ≤ 65535) (t0 : 0 ≤ t) (t1 : t ≤ 65535) (hd : d.length ≤ 1500) :
    Calls Try.prog 35 #[.agg #[.int .i64 f, .int .i64 t, .string (B d)]] w
      fun e w' => e = .returned (.tuple #[.string (B (sealL (be 2 f ++ (be 2 t ++ (be 2 d.length ++ d))))), .int .i64 0]) ∧ Fr [] w w' := by
  have hi : inB f 0 65535 = true := by simp [inB]; omega
  have hj : inB t 0 65535 = true := by simp [inB]; omega
  have hd' : ¬ (1500 : Int) < d.length := by omega
  have n0 : (0 : Int) ≤ d.length := by omega
  have hq : ¬ 9223372036854775807 < 6 + d.length := by omega
  have n1 : (d.length : Int) ≤ 65535 := by omega
  go_enter Try.func35, Try.ntmps35
  go_wp2_with fail
  refine (in_any f _ _ _).mono ?_
  rw [hi]
  rintro e w1 ⟨rfl, rfl⟩
  go_wp2_with fail
  refine (in_any t _ _ _).mono ?_
  rw [hj]
  rintro e w1 ⟨rfl, rfl⟩
  go_wp2_with fail
  obtain ⟨C, hC⟩ : ∃ C : Array Value, C = #[.int .i64 f, .int .i64 t, .string (B d)] := ⟨_, rfl⟩
  rw [← hC]
  obtain ⟨W, hW⟩ : ∃ W, w.alloc (.cells C 45) = W := ⟨_, rfl⟩
  have hB : Blk W w.heap.size C 45 := by rw [← hW]; exact Blk.new _ _ _
  have hF : Fr [] w W := by rw [← hW]; exact (Fr.refl _ _).alloc _
  rw [hW]
  clear hW
  have HC := Lib.hid hC
  clear hC
  have l2 := be_length 2 f
  have l3 := be_length 2 t
  have l4 := be_length 2 (d.length : Int)
  have hG : GS w w.heap.size C 45 (.int .i64 f) (.int .i64 t) (.string (B d)) W.drew := GS.mk HC hB.drew hF.drew
  go_region_held3 (fun w' => Blk w' w.heap.size C 45 ∧ w'.cell? ⟨w.heap.size, 0, none⟩ = some (.int .i64 f) ∧ w'.cell? ⟨w.heap.size, 1, none⟩ = some (.int .i64 t) ∧ w'.cell? ⟨w.heap.size, 2, none⟩ = some (.string (B d)) ∧ Fr [] w w')
    (first | exact hG | assumption | exact GS.call HC (by assumption) (by assumption))
    (first
      | (go_at_call 51; refine (two_w _ _ (by assumption) (by assumption)).mono ?_; rintro e w3 ⟨rfl, hF3⟩)
      | (go_at_call 19; refine (seal_any (be 2 f ++ (be 2 t ++ (be 2 d.length ++ d))) _ (by simp only [List.length_append, l2, l3, l4]; omega)).mono ?_; rintro e w3 ⟨rfl, hF3⟩))
  all_goals (go_wp2; go_ret2; exact ⟨rfl, by go_split_ands; assumption⟩)

set_option maxHeartbeats 2000000 in
theorem rputgram_ok (f t : Int) (d : List UInt8) (w : World) (f0 : 0 ≤ f) (f1 : f ≤ 65535) (t0 : 0 ≤ t) (t1 : t ≤ 65535) (hd : d.length ≤ 1500) :
    Calls Try.prog 43 #[.agg #[.int .i64 f, .int .i64 t, .string (B d)]] w
      fun e w' => e = .returned (.tuple #[.string (B (sealL (be 2 f ++ (be 2 t ++ (be 2 d.length ++ d))))), .int .i64 0]) ∧ Fr [] w w' := by
  have hd' : ¬ (1500 : Int) < d.length := by omega
  have n0 : (0 : Int) ≤ d.length := by omega
  have hq : ¬ 9223372036854775807 < 6 + d.length := by omega
  have n1 : (d.length : Int) ≤ 65535 := by omega
  go_enter Try.func43, Try.ntmps43
  go_wp2
  obtain ⟨C, hC⟩ : ∃ C : Array Value, C = #[.int .i64 f, .int .i64 t, .string (B d)] := ⟨_, rfl⟩
  rw [← hC]
  obtain ⟨W, hW⟩ : ∃ W, w.alloc (.cells C 45) = W := ⟨_, rfl⟩
  have hB : Blk W w.heap.size C 45 := by rw [← hW]; exact Blk.new _ _ _
  have hF : Fr [] w W := by rw [← hW]; exact (Fr.refl _ _).alloc _
  rw [hW]
  clear hW
  have HC := Lib.hid hC
  clear hC
  have l2 := be_length 2 f
  have l3 := be_length 2 t
  have l4 := be_length 2 (d.length : Int)
  have hG : GS w w.heap.size C 45 (.int .i64 f) (.int .i64 t) (.string (B d)) W.drew := GS.mk HC hB.drew hF.drew
  go_region_held3 (fun w' => Blk w' w.heap.size C 45 ∧ w'.cell? ⟨w.heap.size, 0, none⟩ = some (.int .i64 f) ∧ w'.cell? ⟨w.heap.size, 1, none⟩ = some (.int .i64 t) ∧ w'.cell? ⟨w.heap.size, 2, none⟩ = some (.string (B d)) ∧ Fr [] w w')
    (first | exact hG | assumption | exact GS.call HC (by assumption) (by assumption))
    (first
      | (go_at_call 53; refine (two_any _ _ ⟨by omega, by omega⟩).mono ?_; rintro e w3 ⟨rfl, hF3⟩)
      | (go_at_call 24; refine (rseal_any (be 2 f ++ (be 2 t ++ (be 2 d.length ++ d))) _ (by simp only [List.length_append, l2, l3, l4]; omega)).mono ?_; rintro e w3 ⟨rfl, hF3⟩))
  all_goals (go_wp2; go_ret2; exact ⟨rfl, by go_split_ands; assumption⟩)

theorem putgram_any (f t : Int) (d : List UInt8) (w : World) (hd : d.length ≤ 140737488351232) :
    Calls Try.prog 35 #[.agg #[.int .i64 f, .int .i64 t, .string (B d)]] w
      fun e w' => e = .returned (.tuple #[.string (B (graL f t d)), .int .i64 (graE f t d)]) ∧ Fr [] w w' := by
  by_cases h1 : (f < 0 ∨ 65535 < f) ∨ (t < 0 ∨ 65535 < t)
  · have e : graE f t d = 1 := by unfold graE; rw [if_pos h1]
    have e' : graL f t d = [] := by unfold graL; rw [e]; rfl
    rw [e, e']; clear e e'
    by_cases h2 : 0 ≤ f ∧ f ≤ 65535
    · have hi : inB f 0 65535 = true := by simp [inB]; omega
      have hj : inB t 0 65535 = false := by simp [inB]; omega
      clear h1 h2
      go_enter Try.func35, Try.ntmps35
      go_wp2_with fail
      refine (in_any f _ _ _).mono ?_
      rw [hi]
      rintro e w1 ⟨rfl, rfl⟩
      go_wp2_with fail
      refine (in_any t _ _ _).mono ?_
      rw [hj]
      rintro e w1 ⟨rfl, rfl⟩
      go_wp2
      go_ret2
      exact ⟨rfl, (Fr.refl _ _).alloc _⟩
    · have hi : inB f 0 65535 = false := by simp [inB]; omega
      clear h1 h2
      go_enter Try.func35, Try.ntmps35
      go_wp2_with fail
      refine (in_any f _ _ _).mono ?_
      rw [hi]
      rintro e w1 ⟨rfl, rfl⟩
      go_wp2
      go_ret2
      exact ⟨rfl, (Fr.refl _ _).alloc _⟩
  · have f0 : 0 ≤ f := by omega
    have f1 : f ≤ 65535 := by omega
    have t0 : 0 ≤ t := by omega
    have t1 : t ≤ 65535 := by omega
    by_cases h2 : 1500 < d.length
    · have e : graE f t d = 2 := by unfold graE; rw [if_neg h1, if_pos h2]
      have e' : graL f t d = [] := by unfold graL; rw [e]; rfl
      have h2' : (1500 : Int) < d.length := by omega
      rw [e, e']; clear e e' h1 h2
      have hi : inB f 0 65535 = true := by simp [inB]; omega
      have hj : inB t 0 65535 = true := by simp [inB]; omega
      go_enter Try.func35, Try.ntmps35
      go_wp2_with fail
      refine (in_any f _ _ _).mono ?_
      rw [hi]
      rintro e w1 ⟨rfl, rfl⟩
      go_wp2_with fail
      refine (in_any t _ _ _).mono ?_
      rw [hj]
      rintro e w1 ⟨rfl, rfl⟩
      go_wp2
      go_ret2
      exact ⟨rfl, (Fr.refl _ _).alloc _⟩
    · have e : graE f t d = 0 := by unfold graE; rw [if_neg h1, if_neg h2]
      have e' : graL f t d = sealL (be 2 f ++ (be 2 t ++ (be 2 d.length ++ d))) := by unfold graL; rw [if_pos e]
      rw [e, e']
      exact putgram_ok f t d w f0 f1 t0 t1 (by omega)

theorem rputgram_any (f t : Int) (d : List UInt8) (w : World) (hd : d.length ≤ 140737488351232) :
    Calls Try.prog 43 #[.agg #[.int .i64 f, .int .i64 t, .string (B d)]] w
      fun e w' => e = .returned (.tuple #[.string (B (graL f t d)), .int .i64 (graE f t d)]) ∧ Fr [] w w' := by
  by_cases h1 : (f < 0 ∨ 65535 < f) ∨ (t < 0 ∨ 65535 < t)
  · have e : graE f t d = 1 := by unfold graE; rw [if_pos h1]
    have e' : graL f t d = [] := by unfold graL; rw [e]; rfl
    rw [e, e']; clear e e'
    by_cases a1 : f < 0
    · clear h1
      go_enter Try.func43, Try.ntmps43
      go_wp2
      go_ret2
      exact ⟨rfl, (Fr.refl _ _).alloc _⟩
    by_cases a2 : 65535 < f
    · clear h1
      go_enter Try.func43, Try.ntmps43
      go_wp2
      go_ret2
      exact ⟨rfl, (Fr.refl _ _).alloc _⟩
    by_cases a3 : t < 0
    · clear h1
      go_enter Try.func43, Try.ntmps43
      go_wp2
      go_ret2
      exact ⟨rfl, (Fr.refl _ _).alloc _⟩
    · have a4 : 65535 < t := by omega
      clear h1
      go_enter Try.func43, Try.ntmps43
      go_wp2
      go_ret2
      exact ⟨rfl, (Fr.refl _ _).alloc _⟩
  · have f0 : 0 ≤ f := by omega
    have f1 : f ≤ 65535 := by omega
    have t0 : 0 ≤ t := by omega
    have t1 : t ≤ 65535 := by omega
    by_cases h2 : 1500 < d.length
    · have e : graE f t d = 2 := by unfold graE; rw [if_neg h1, if_pos h2]
      have e' : graL f t d = [] := by unfold graL; rw [e]; rfl
      have h2' : (1500 : Int) < d.length := by omega
      rw [e, e']; clear e e' h1 h2
      go_enter Try.func43, Try.ntmps43
      go_wp2
      go_ret2
      exact ⟨rfl, (Fr.refl _ _).alloc _⟩
    · have e : graE f t d = 0 := by unfold graE; rw [if_neg h1, if_neg h2]
      have e' : graL f t d = sealL (be 2 f ++ (be 2 t ++ (be 2 d.length ++ d))) := by unfold graL; rw [if_pos e]
      rw [e, e']
      exact rputgram_ok f t d w f0 f1 t0 t1 (by omega)

end Go.Proofs.Ytmdgilhjiooalaa
