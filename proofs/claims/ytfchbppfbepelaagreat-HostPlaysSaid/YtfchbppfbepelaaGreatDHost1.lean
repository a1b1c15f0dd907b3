/- the document's host: what it holds; NewHost, Shows. -/
import Derived.Test.YtfchbppfbepelaaGreatHost7
import Derived.Test.YtfchbppfbepelaaGreatEqEth
namespace Go.Proofs.YtfchbppfbepelaaGreat
open Go.RowKit
set_option linter.unusedVariables false
structure Dh where
  m : Mc
  sv : List UInt8
  un : List UInt8
  rt : Int
  wt : Int
  st : Int
  ss : Int
  k : Mc
  ck : List UInt8
  hc : Bool
  tk : Int
  ag : Int
def dhC (h : Dh) : Array Value := #[.int .u8 h.m.a, .int .u8 h.m.b, .int .u8 h.m.c, .int .u8 h.m.d, .int .u8 h.m.e, .int .u8 h.m.f, .string (B h.sv), .string (B h.un), .int .i64 h.rt, .int .i64 h.wt, .int .i64 h.st, .int .i64 h.ss,
  .int .u8 h.k.a, .int .u8 h.k.b, .int .u8 h.k.c, .int .u8 h.k.d, .int .u8 h.k.e, .int .u8 h.k.f, .string (B h.ck), .bool h.hc, .int .i64 h.tk, .int .i64 h.ag]
def dh0 (m : Mc) (sv un : List UInt8) (rt wt : Int) : Dh := ⟨m, sv, un, rt, wt, 0, 0, mc0, [], false, 0, 0⟩
/-- what Shows tells -/
def dhShow (h : Dh) : Int × Mc × Int := if h.st = 2 then (2, h.k, 0) else if h.st = 3 then (3, h.k, h.ss) else (h.st, mc0, 0)
section
variable {w : World} {g : Nat} {h : Dh}
set_option maxRecDepth 100000 in
set_option maxHeartbeats 8000000 in
theorem dhNew_ok (m : Mc) (sv un : List UInt8) (rt wt : Int) (h1 : sv.length ≤ 40) (h2 : un.length ≤ 40) (r0 : 0 ≤ rt) (r1 : rt ≤ 10) (w0 : 1 ≤ wt) (w1 : wt ≤ 100) :
    Calls Tryz.prog 49 #[.agg (mcL m).toArray, .string (B sv), .string (B un), .int .i64 rt, .int .i64 wt] w fun e w' => ∃ g, e = .returned (.tuple #[.pointer (some ⟨g, 0, none⟩), .int .i64 0]) ∧ w.heap.size ≤ g ∧ Blk w' g (dhC (dh0 m sv un rt wt)) 254 ∧ Fr [] w w' := by
  have n1 : ¬ (40 : Int) < sv.length := by omega
  have n2 : ¬ (40 : Int) < un.length := by omega
  have n3 : ¬ rt < 0 := by omega
  have n4 : ¬ 10 < rt := by omega
  have n5 : ¬ wt < 1 := by omega
  have n6 : ¬ 100 < wt := by omega
  obtain ⟨k1, k2, k3, k4, k5, k6⟩ := m
  unfold mcL
  simp only
  have hF := (Fr.refl [] w).alloc (.cells #[.int .u8 k1, .int .u8 k2, .int .u8 k3, .int .u8 k4, .int .u8 k5, .int .u8 k6] 104 (0, 0))
  have hN := Blk.new w #[.int .u8 k1, .int .u8 k2, .int .u8 k3, .int .u8 k4, .int .u8 k5, .int .u8 k6] 104
  go_enter Tryz.func49, Tryz.ntmps49
  go_wp2_with fail
  have e1 : (w.alloc (.cells #[.int .u8 k1, .int .u8 k2, .int .u8 k3, .int .u8 k4, .int .u8 k5, .int .u8 k6] 104 (0, 0))).heap.size = w.heap.size + 1 := by simp
  have hB := Blk.new (w.alloc (.cells #[.int .u8 k1, .int .u8 k2, .int .u8 k3, .int .u8 k4, .int .u8 k5, .int .u8 k6] 104 (0, 0))) (dhC (dh0 ⟨k1, k2, k3, k4, k5, k6⟩ sv un rt wt)) 254
  rw [e1] at hB
  go_ret2
  exact ⟨w.heap.size + 1, rfl, by omega, hB, hF.alloc _⟩
theorem dhNew_err (m : Mc) (sv un : List UInt8) (rt wt : Int) (hE : 40 < sv.length ∨ 40 < un.length ∨ rt < 0 ∨ 10 < rt ∨ wt < 1 ∨ 100 < wt) :
    Calls Tryz.prog 49 #[.agg (mcL m).toArray, .string (B sv), .string (B un), .int .i64 rt, .int .i64 wt] w fun e w' => e = .returned (.tuple #[.pointer none, .int .i64 1]) ∧ Fr [] w w' := by
  have hX : (40 : Int) < sv.length ∨ ¬ (40 : Int) < sv.length ∧ ((40 : Int) < un.length ∨ ¬ (40 : Int) < un.length ∧ (rt < 0 ∨ ¬ rt < 0 ∧ (10 < rt ∨ ¬ 10 < rt ∧ (wt < 1 ∨ ¬ wt < 1 ∧ 100 < wt)))) := by omega
  clear hE
  obtain ⟨k1, k2, k3, k4, k5, k6⟩ := m
  unfold mcL
  simp only
  have hF := (Fr.refl [] w).alloc (.cells #[.int .u8 k1, .int .u8 k2, .int .u8 k3, .int .u8 k4, .int .u8 k5, .int .u8 k6] 104 (0, 0))
  rcases hX with h1 | ⟨h1, h2 | ⟨h2, h3 | ⟨h3, h4 | ⟨h4, h5 | ⟨h5, h6⟩⟩⟩⟩⟩
  all_goals
    go_enter Tryz.func49, Tryz.ntmps49
    go_wp2_with fail
    go_ret2
    exact ⟨rfl, hF⟩
set_option maxRecDepth 100000 in
set_option maxHeartbeats 8000000 in
theorem dhShows_off (h2 : h.st ≠ 2) (h3 : h.st ≠ 3) (hB : Blk w g (dhC h) 254) : Calls Tryz.prog 64 #[.pointer (some ⟨g, 0, none⟩)] w fun e w' => e = .returned (.tuple #[.int .i64 h.st, .agg (mcL mc0).toArray, .int .i64 0]) ∧ Fr [] w w' := by
  have c10 : w.cell? ⟨g, 10, none⟩ = some (.int .i64 h.st) := hB.c 10 _ rfl
  have n2 : (h.st == 2) = false := by simpa using h2
  have n3 : (h.st == 3) = false := by simpa using h3
  have hF := (Fr.refl [] w).alloc (.cells #[.int .u8 0, .int .u8 0, .int .u8 0, .int .u8 0, .int .u8 0, .int .u8 0] 104 (0, 0))
  have d10 : (w.alloc (.cells #[.int .u8 0, .int .u8 0, .int .u8 0, .int .u8 0, .int .u8 0, .int .u8 0] 104 (0, 0))).cell? ⟨g, 10, none⟩ = some (.int .i64 h.st) := (hF.blk hB (by simp)).c 10 _ rfl
  have hN := Blk.new w #[.int .u8 0, .int .u8 0, .int .u8 0, .int .u8 0, .int .u8 0, .int .u8 0] 104
  have hg := hB.lt
  clear hB h2 h3
  go_enter Tryz.func64, Tryz.ntmps64
  go_wp2_with fail
  exact ret_cell3 2 3 4 104 rfl w.heap.size 104 _ _ (Blk.new w _ _) rfl Tryz.underlying104 rfl (by kernel_rfl) rfl ⟨rfl, (Fr.refl _ _).alloc _⟩
end
end Go.Proofs.YtfchbppfbepelaaGreat
