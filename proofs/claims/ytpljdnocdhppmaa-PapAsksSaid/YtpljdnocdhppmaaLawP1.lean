/- PapNone, PapBytes, PapBack, walked. -/
import Derived.Test.YtpljdnocdhppmaaPap5
namespace Go.Proofs.Ytpljdnocdhppmaa
open Go.RowKit
set_option linter.unusedVariables false

/-- a packet's block and a client's, behind a call that leaves both alone -/
structure PC (w : World) (b : Nat) (c i : Int) (A : Option Addr) (n cap : Nat) (D : List UInt8) (g : Nat) (C : Array Value) (W : World) : Prop where
  p : Blk W b #[.int .i64 c, .int .i64 i, .slice A n cap, .string (B D)] 50
  z : Blk W g C 59
  f : Fr [] w W
theorem PC.on {w W W' : World} {b g n cap : Nat} {c i : Int} {A : Option Addr} {D : List UInt8} {C : Array Value} (h : PC w b c i A n cap D g C W) (hF : Fr [] W W') : PC w b c i A n cap D g C W' :=
  ⟨hF.blk h.p (by simp), hF.blk h.z (by simp), h.f.trans hF⟩
theorem PC.cs {w W : World} {b g n cap : Nat} {c i : Int} {A : Option Addr} {D : List UInt8} {C : Array Value} (h : PC w b c i A n cap D g C W) :
    W.cell? ⟨b, 0, none⟩ = some (.int .i64 c) ∧ W.cell? ⟨b, 1, none⟩ = some (.int .i64 i) ∧ W.cell? ⟨b, 2, none⟩ = some (.slice A n cap) ∧ W.cell? ⟨b, 3, none⟩ = some (.string (B D)) :=
  ⟨h.p.c 0 _ rfl, h.p.c 1 _ rfl, h.p.c 2 _ rfl, h.p.c 3 _ rfl⟩

set_option maxRecDepth 100000 in
set_option maxHeartbeats 2000000 in
theorem papNone_walk (w : World) (c i : Int) (A : Option Addr) (n cap : Nat) (D : ByteArray) (hD : D.size ≤ 140737488351232) :
    Calls Try.prog 10 #[.agg #[.int .i64 c, .int .i64 i, .slice A n cap, .string D]] w fun e w' => e = .returned (.bool true) ∧ Below w.heap.size w w' := by
  obtain ⟨D, rfl⟩ : ∃ l, D = B l := ⟨_, B_of D⟩
  have h0 : PC w w.heap.size c i A n cap D (w.heap.size + 1) (pcl [] 0 0 0 0 0 false false false) ((w.alloc (.cells #[.int .i64 c, .int .i64 i, .slice A n cap, .string (B D)] 50)).alloc (.cells (pcl [] 0 0 0 0 0 false false false) 59)) := by
    refine ⟨(Blk.new w _ _).alloc _, ?_, ((Fr.refl _ _).alloc _).alloc _⟩
    have := Blk.new (w.alloc (.cells #[.int .i64 c, .int .i64 i, .slice A n cap, .string (B D)] 50)) (pcl [] 0 0 0 0 0 false false false) 59
    simpa using this
  go_enter Try.func10, Try.ntmps10
  go_wp2_with fail
  refine (ptake_nil c i A n cap D).mono ?_
  rintro e w1 ⟨rfl, hF1⟩
  have h1 := h0.on hF1
  obtain ⟨p0, p1, p2, p3⟩ := h1.cs
  clear h0 hF1
  go_wp2_with fail
  refine (ptake_zero c i A n cap D h1.z).mono ?_
  rintro e w2 ⟨rfl, hF2⟩
  have h2 := h1.on hF2
  clear h1 hF2 p0 p1 p2 p3
  go_wp2_with fail
  refine pdone_nil.mono ?_
  rintro e w3 ⟨rfl, rfl⟩
  go_wp2_with fail
  refine (pdone_zero h2.z).mono ?_
  rintro e w3 ⟨rfl, rfl⟩
  go_wp2_with fail
  refine (alive13 _).mono ?_
  rintro e w3 ⟨rfl, hF3⟩
  have h3 := h2.on hF3
  clear h2 hF3
  go_wp2_with fail
  refine pstart_nil.mono ?_
  rintro e w4 ⟨rfl, rfl⟩
  go_wp2_with fail
  refine (pstart_zero h3.z).mono ?_
  rintro e w4 ⟨rfl, rfl⟩
  go_wp2_with fail
  refine ptick_nil.mono ?_
  rintro e w4 ⟨rfl, rfl⟩
  go_wp2_with fail
  refine (ptick_zero h3.z).mono ?_
  rintro e w4 ⟨rfl, rfl⟩
  go_wp2
  go_ret
  exact ⟨rfl, h3.f.below (Nat.le_refl _) (by simp)⟩

set_option maxRecDepth 100000 in
set_option maxHeartbeats 2000000 in
theorem papBytes_walk (w : World) (n : ByteArray) (hn : n.size ≤ 140737488351232) (s : ByteArray) (hs : s.size ≤ 140737488351232) (b : ByteArray) (hb : b.size ≤ 140737488351232) :
    Calls Try.prog 4 #[.string n, .string s, .string b] w fun e w' => e = .returned (.bool true) ∧ Below w.heap.size w w' := by
  obtain ⟨n, rfl⟩ : ∃ l, n = B l := ⟨_, B_of n⟩
  obtain ⟨s, rfl⟩ : ∃ l, s = B l := ⟨_, B_of s⟩
  obtain ⟨b, rfl⟩ : ∃ l, b = B l := ⟨_, B_of b⟩
  rw [B_size] at hn hs hb
  by_cases h : 3000 < n.length + s.length + b.length
  · have h1 : (3000 : Int) < (n.length : Int) + s.length + b.length := by omega
    go_enter Try.func4, Try.ntmps4
    go_wp2_with fail
    refine (alive13 _).mono ?_
    rintro e w1 ⟨rfl, hF⟩
    go_wp2
    go_ret
    exact ⟨rfl, hF.below (Nat.le_refl _) (by simp)⟩
  · have h1 : ¬ (3000 : Int) < (n.length : Int) + s.length + b.length := by omega
    have A1 := Lib.hid fun W => putReq_any n s W (by omega) (by omega)
    have A2 := Lib.hid fun W => rputReq_any n s W (by omega) (by omega)
    have A3 := Lib.hid fun W => getReq_any b W (by omega)
    have A4 := Lib.hid fun W => rgetReq_any b W (by omega)
    have A5 := Lib.hid fun W => putSay_any n W (by omega)
    have A6 := Lib.hid fun W => rputSay_any n W (by omega)
    have A7 := Lib.hid fun W => getSay_any b W (by omega)
    have A8 := Lib.hid fun W => rgetSay_any b W (by omega)
    obtain ⟨x1, q1⟩ : ∃ x, reqL n s = x := ⟨_, rfl⟩
    obtain ⟨x2, q2⟩ : ∃ x, reqE n s = x := ⟨_, rfl⟩
    obtain ⟨x3, q3⟩ : ∃ x, greqN b = x := ⟨_, rfl⟩
    obtain ⟨x4, q4⟩ : ∃ x, greqS b = x := ⟨_, rfl⟩
    obtain ⟨x5, q5⟩ : ∃ x, getE 2 b = x := ⟨_, rfl⟩
    obtain ⟨x6, q6⟩ : ∃ x, sayL n = x := ⟨_, rfl⟩
    obtain ⟨x7, q7⟩ : ∃ x, sayE n = x := ⟨_, rfl⟩
    obtain ⟨x8, q8⟩ : ∃ x, gsayL b = x := ⟨_, rfl⟩
    obtain ⟨x9, q9⟩ : ∃ x, gsayE b = x := ⟨_, rfl⟩
    rw [q1, q2] at A1 A2
    rw [q3, q4, q5] at A3 A4
    rw [q6, q7] at A5 A6
    rw [q8, q9] at A7 A8
    clear q1 q2 q3 q4 q5 q6 q7 q8 q9 h
    go_enter Try.func4, Try.ntmps4
    go_wp2_with fail
    refine (A1.out _).mono ?_
    rintro e w1 ⟨rfl, hF1⟩
    go_wp2_with fail
    refine (A2.out _).mono ?_
    rintro e w2 ⟨rfl, hF2⟩
    go_wp2_with fail
    refine (A3.out _).mono ?_
    rintro e w3 ⟨rfl, hF3⟩
    go_wp2_with fail
    refine (A4.out _).mono ?_
    rintro e w4 ⟨rfl, hF4⟩
    go_wp2_with fail
    refine (A5.out _).mono ?_
    rintro e w5 ⟨rfl, hF5⟩
    go_wp2_with fail
    refine (A6.out _).mono ?_
    rintro e w6 ⟨rfl, hF6⟩
    go_wp2_with fail
    refine (A7.out _).mono ?_
    rintro e w7 ⟨rfl, hF7⟩
    go_wp2_with fail
    refine (A8.out _).mono ?_
    rintro e w8 ⟨rfl, hF8⟩
    go_wp2_with fail
    refine (alive13 _).mono ?_
    rintro e w9 ⟨rfl, hF9⟩
    go_wp2
    go_ret
    exact ⟨rfl, ((((((((hF1.trans hF2).trans hF3).trans hF4).trans hF5).trans hF6).trans hF7).trans hF8).trans hF9).below (Nat.le_refl _) (by simp)⟩
end Go.Proofs.Ytpljdnocdhppmaa
