/- package pool: an address as a number, and back. -/
import Derived.Test.YtnenmgankgadcaaRow
import Derived.Test.YtnenmgankgadcaaStr
import Derived.Outline
import Derived.IntWalk
namespace Go.Proofs.Ytnenmgankgadcaa
open Go.RowKit
set_option linter.unusedVariables false

/-- an address, its four bytes -/
def adr (a b c d : Int) : Array Value := #[.int .u8 a, .int .u8 b, .int .u8 c, .int .u8 d]
def u8 (a : Int) : Prop := 0 ≤ a ∧ a < 256
def num4 (a b c d : Int) : Int := a * 16777216 + b * 65536 + c * 256 + d
theorem wraps32 (n : Int) (h₀ : 0 ≤ n) (h₁ : n < 2 ^ 32) : IntKind.u32.wrap n = n := by rw [IntKind.wrap_u32]; omega
theorem or4 (a b c d : Int) (ha : u8 a) (hb : u8 b) (hc : u8 c) (hd : u8 d) : bits .or .u32 (bits .or .u32 (bits .or .u32 (a * 16777216) (b * 65536)) (c * 256)) d = num4 a b c d := by
  unfold u8 at ha hb hc hd
  rw [bits_join .u32 32 (by decide) wraps32 24 (a * 16777216) (b * 65536) (by omega) (by omega) (by omega) (by omega) (by omega) (by omega),
    bits_join .u32 32 (by decide) wraps32 16 (a * 16777216 + b * 65536) (c * 256) (by omega) (by omega) (by omega) (by omega) (by omega) (by omega),
    bits_join .u32 32 (by decide) wraps32 8 (a * 16777216 + b * 65536 + c * 256) d (by omega) (by omega) (by omega) (by omega) (by omega) (by omega)]
  rfl
theorem number_any (a b c d : Int) (w : World) (ha : u8 a) (hb : u8 b) (hc : u8 c) (hd : u8 d) :
    Calls Try.prog 25 #[.agg (adr a b c d)] w fun e w' => e = .returned (.int .u32 (num4 a b c d)) ∧ Fr [] w w' := by
  have H4 := Lib.hid (or4 a b c d ha hb hc hd)
  unfold u8 at ha hb hc hd
  obtain ⟨a0, a1⟩ := ha
  obtain ⟨b0, b1⟩ := hb
  obtain ⟨c0, c1⟩ := hc
  obtain ⟨d0, d1⟩ := hd
  unfold adr
  go_enter Try.func25, Try.ntmps25
  go_wp2
  go_ret
  exact ⟨rint H4.out, (Fr.refl _ _).alloc _⟩
/-- a number as an address, modulo 2^32 -/
def adrN (x : Int) : Array Value := adr (x / 16777216 % 256) (x / 65536 % 256) (x / 256 % 256) (x % 256)
theorem num4_bd {a b c d : Int} (ha : u8 a) (hb : u8 b) (hc : u8 c) (hd : u8 d) : 0 ≤ num4 a b c d ∧ num4 a b c d < 4294967296 := by
  unfold u8 at ha hb hc hd
  unfold num4
  omega
theorem adrN_num4 {a b c d : Int} (ha : u8 a) (hb : u8 b) (hc : u8 c) (hd : u8 d) : adrN (num4 a b c d) = adr a b c d := by
  unfold u8 at ha hb hc hd
  unfold adrN num4
  have e1 : (a * 16777216 + b * 65536 + c * 256 + d) / 16777216 % 256 = a := by omega
  have e2 : (a * 16777216 + b * 65536 + c * 256 + d) / 65536 % 256 = b := by omega
  have e3 : (a * 16777216 + b * 65536 + c * 256 + d) / 256 % 256 = c := by omega
  have e4 : (a * 16777216 + b * 65536 + c * 256 + d) % 256 = d := by omega
  rw [e1, e2, e3, e4]
theorem adrN_mod (x : Int) : adrN (x % 4294967296) = adrN x := by
  unfold adrN
  have e1 : x % 4294967296 / 16777216 % 256 = x / 16777216 % 256 := by omega
  have e2 : x % 4294967296 / 65536 % 256 = x / 65536 % 256 := by omega
  have e3 : x % 4294967296 / 256 % 256 = x / 256 % 256 := by omega
  have e4 : x % 4294967296 % 256 = x % 256 := by omega
  rw [e1, e2, e3, e4]
set_option maxHeartbeats 1000000 in
theorem add_any (a b c d n : Int) (w : World) (ha : u8 a) (hb : u8 b) (hc : u8 c) (hd : u8 d) (n0 : -9223372036854775808 ≤ n) (n1 : n ≤ 9223372036854775807) :
    Calls Try.prog 9 #[.agg (adr a b c d), .int .i64 n] w fun e w' => e = .returned (.agg (adrN (num4 a b c d + n))) ∧ Fr [] w w' := by
  have HN := Lib.hid fun W => number_any a b c d W ha hb hc hd
  obtain ⟨x0, x1⟩ := num4_bd ha hb hc hd
  obtain ⟨x, hx⟩ : ∃ x, num4 a b c d = x := ⟨_, rfl⟩
  rw [hx] at HN x0 x1 ⊢
  clear hx
  unfold adr at HN ⊢
  go_enter Try.func9, Try.ntmps9
  go_wp2_with fail
  refine (HN.out _).mono ?_
  rintro e w1 ⟨rfl, hF⟩
  have hB := hF.blk (Blk.new (w.alloc (.cells #[.int .u8 a, .int .u8 b, .int .u8 c, .int .u8 d] 23 (0, 0))) #[.int .u8 0, .int .u8 0, .int .u8 0, .int .u8 0] 23) (by simp)
  rw [show (w.alloc (.cells #[.int .u8 a, .int .u8 b, .int .u8 c, .int .u8 d] 23 (0, 0))).heap.size = w.heap.size + 1 by simp] at hB
  have hF2 := (((Fr.refl [] w).alloc (.cells #[.int .u8 a, .int .u8 b, .int .u8 c, .int .u8 d] 23 (0, 0))).alloc (.cells #[.int .u8 0, .int .u8 0, .int .u8 0, .int .u8 0] 23 (0, 0))).trans hF
  have c0 : w1.cell? ⟨w.heap.size + 1, 0, none⟩ = some (.int .u8 0) := hB.c 0 _ rfl
  have c1 : w1.cell? ⟨w.heap.size + 1, 1, none⟩ = some (.int .u8 0) := hB.c 1 _ rfl
  have c2 : w1.cell? ⟨w.heap.size + 1, 2, none⟩ = some (.int .u8 0) := hB.c 2 _ rfl
  have c3 : w1.cell? ⟨w.heap.size + 1, 3, none⟩ = some (.int .u8 0) := hB.c 3 _ rfl
  have f0 := hB.fz 0
  have f1 := hB.fz 1
  have f2 := hB.fz 2
  have f3 := hB.fz 3
  clear hF
  go_wp2
  obtain ⟨y, hy⟩ : ∃ y, x + n = y := ⟨_, rfl⟩
  rw [hy]
  have hB4 := (((hB.set 0 (.int .u8 (y % 4294967296 / 16777216))).set 1 (.int .u8 (y % 4294967296 / 65536 % 256))).set 2 (.int .u8 (y % 4294967296 / 256 % 256))).set 3 (.int .u8 (y % 256))
  have hF4 : Fr [] w _ := (((hF2.setNew (p := ⟨w.heap.size + 1, 0, none⟩) (by simp) (.int .u8 (y % 4294967296 / 16777216))).setNew (p := ⟨w.heap.size + 1, 1, none⟩) (by simp) (.int .u8 (y % 4294967296 / 65536 % 256))).setNew (p := ⟨w.heap.size + 1, 2, none⟩) (by simp) (.int .u8 (y % 4294967296 / 256 % 256))).setNew (p := ⟨w.heap.size + 1, 3, none⟩) (by simp) (.int .u8 (y % 256))
  have e : adrN y = adr (y % 4294967296 / 16777216) (y % 4294967296 / 65536 % 256) (y % 4294967296 / 256 % 256) (y % 256) := by
    unfold adrN
    rw [show y / 16777216 % 256 = y % 4294967296 / 16777216 by omega, show y / 65536 % 256 = y % 4294967296 / 65536 % 256 by omega, show y / 256 % 256 = y % 4294967296 / 256 % 256 by omega]
  rw [e]
  exact ret_cell1 4 23 rfl (w.heap.size + 1) 23 (adr (y % 4294967296 / 16777216) (y % 4294967296 / 65536 % 256) (y % 4294967296 / 256 % 256) (y % 256)) _ hB4 rfl Try.underlying23 rfl (by kernel_rfl) rfl ⟨rfl, hF4⟩
end Go.Proofs.Ytnenmgankgadcaa
