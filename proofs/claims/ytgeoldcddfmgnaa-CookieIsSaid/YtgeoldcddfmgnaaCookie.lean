/- Cookies: the program's. -/
import Derived.Test.YtgeoldcddfmgnaaChap2
namespace Go.Proofs.Ytgeoldcddfmgnaa
open Go.RowKit
set_option linter.unusedVariables false

theorem epoch_any (t : Int) (w : World) (h0 : -9223372036854775808 ≤ t) (h1 : t ≤ 9223372036854775807) :
    Calls Try.prog 30 #[.int .i64 t] w fun e w' => e = .returned (.int .i64 (t / 64)) ∧ w = w' := by
  go_enter Try.func30, Try.ntmps30
  go_wp2
  go_ret
  exact ⟨rfl, rfl⟩
theorem repoch_any (t : Int) (w : World) (h0 : -9223372036854775808 ≤ t) (h1 : t ≤ 9223372036854775807) :
    Calls Try.prog 31 #[.int .i64 t] w fun e w' => e = .returned (.int .i64 (t / 64)) ∧ w = w' := by
  go_enter Try.func31, Try.ntmps31
  go_wp2
  go_ret
  exact ⟨rfl, rfl⟩

def cookL (e : Int) (ms : List Int) (v s : List UInt8) : List UInt8 := be 8 e ++ (bytesOf ms ++ (be 4 v.length ++ (v ++ s)))
theorem cookL_length (e : Int) (ms : List Int) (v s : List UInt8) : (cookL e ms v s).length = ms.length + v.length + s.length + 12 := by
  unfold cookL
  simp only [List.length_append, be_length]
  simp [bytesOf]
  omega
theorem beI_take (e : Int) (k : Nat) (hk : k < 8) : (beI 8 e).take (k + 1) = (beI 8 e).take k ++ [e / 2 ^ (56 - 8 * k) % 256] := by
  have h : k = 0 ∨ k = 1 ∨ k = 2 ∨ k = 3 ∨ k = 4 ∨ k = 5 ∨ k = 6 ∨ k = 7 := by omega
  rcases h with rfl | rfl | rfl | rfl | rfl | rfl | rfl | rfl <;> (simp [beI_cons, beI]; try omega)

def mac6 (m0 m1 m2 m3 m4 m5 : Int) : Array Value := #[.int .u8 m0, .int .u8 m1, .int .u8 m2, .int .u8 m3, .int .u8 m4, .int .u8 m5]
theorem slMac (g : Nat) (w : World) :
    (Instr.sliceAt 35 (.pointer (some ⟨g, 0, none⟩)) none none none).run Try.prog w = .ok (.slice (some ⟨g, 0, none⟩) 6 6) w := by
  have ha : Try.prog.arrayLen 35 = 6 := by kernel_rfl
  have hs : (sizeOf (Try.prog.elem 35)).run Try.prog w = .ok 1 w := by kernel_rfl
  rw [run_sliceAt_array_all w 35 ⟨g, 0, none⟩ Try.underlying35, hs, ha]
  rfl
theorem blk_cells {w : World} {b T : Nat} {C : List Value} (h : Blk w b C.toArray T) : ∀ j u, C[j]? = some u → w.cell? ((⟨b, 0, none⟩ : Addr).add j) = some u := by
  intro j u hu
  have hp : (⟨b, 0, none⟩ : Addr).add j = ⟨b, j, none⟩ := by unfold Addr.add; split <;> simp_all
  rw [hp]
  exact h.c j u (by simpa using hu)

set_option maxRecDepth 100000 in
set_option maxHeartbeats 2000000 in
theorem of_any (s : List UInt8) (m0 m1 m2 m3 m4 m5 : Int) (v : List UInt8) (e : Int) (w : World) (e0 : -9223372036854775808 ≤ e) (e1 : e ≤ 9223372036854775807) (hs : s.length ≤ 40000) (hv : v.length ≤ 40000) :
    Calls Try.prog 41 #[.string (B s), .agg #[.int .u8 m0, .int .u8 m1, .int .u8 m2, .int .u8 m3, .int .u8 m4, .int .u8 m5], .string (B v), .int .i64 e] w
      fun r w' => r = .returned (.string (B (md5 (cookL e [m0, m1, m2, m3, m4, m5] v s)))) ∧ Fr [] w w' := by
  obtain ⟨i0, hi, hz0, hz1, hz2⟩ := info_parts infoU8
  have hLl := cookL_length e [m0, m1, m2, m3, m4, m5] v s
  have hLb : (cookL e [m0, m1, m2, m3, m4, m5] v s).length ≤ 100000 := by rw [hLl]; simp; omega
  have HLb := Lib.hid hLb
  clear hLl hLb
  have hsl := fun w' => slMac w.heap.size w'
  go_enter Try.func41, Try.ntmps41
  go_wp2
  go_loopw [9, 10] (fun bv iv wr => ∃ k : Nat, k ≤ 8 ∧ iv = .int .i64 (56 - 8 * (k : Int)) ∧ wr.ownsRow (w.heap.size + 1) 5 1 bv k (((beI 8 e).take k).map (Value.int .u8)) ∧ Blk wr w.heap.size (mac6 m0 m1 m2 m3 m4 m5) 35 ∧ Fr [] w wr) (fun _ iv _ => (intOf iv + 8).toNat)
  case atStart => exact ⟨0, by omega, rfl, World.ownsRow_nil _ _ _ _, Blk.new _ _ _, (Fr.refl _ _).alloc _⟩
  case round =>
    obtain ⟨k, hk, rfl, hown, hB, hF⟩ := hrel
    have hlb := hB.lt
    by_cases hlt : k < 8
    · obtain ⟨i, hi'⟩ : ∃ i : Nat, 56 - 8 * (k : Int) = i := ⟨(56 - 8 * (k : Int)).toNat, by omega⟩
      have hik : i = 56 - 8 * k := by omega
      have i56 : i ≤ 56 := by omega
      have htk := beI_take e k hlt
      rw [← hik] at htk
      rw [hi']
      have Hik := Lib.hid hi'
      have Htk := Lib.hid htk
      clear hi' hik htk
      go_wp2_with (at_builtin; refine wpList_append_own _ rfl _ _ 46 rfl (w.heap.size + 1) 5 i0 (.int .u8 0) 1 1 Try.underlying46 hi hz0 hz1 hz2 rfl (by decide) _ _ _ rfl (hown.alloc _) ⟨wr.heap.size, 0, none⟩ 1 1 [.int .u8 (e / 2 ^ i % 256)] rfl rfl ?c1 ?c2 ?c3 ?c4 ?c5 ?_)
      case c1 => exact new_cells _ _ _
      case c2 => simp [Value.oneCell']
      case c3 => unfold maxLen; omega
      case c4 => omega
      case c5 => simp; omega
      intro v' w1 hown' hgr' _
      have hF1 : Fr [] w w1 := (hF.alloc _).grown hgr' (fun k hk => by have := own_new hown k hk; omega)
      have hB1 : Blk w1 w.heap.size (mac6 m0 m1 m2 m3 m4 m5) 35 := (hB.alloc _).grown hgr' (fun k hk => by have := own_new hown k hk; omega)
      clear hgr' hown hF hB
      go_wp2
      go_roundw
      case rel =>
        refine ⟨k + 1, by omega, by have := Hik.out; congr 1; omega, ?_, hB1, hF1⟩
        rw [Htk.out, List.map_append, List.map_take]
        exact hown'
      case measure => simp [intOf]; have := Hik.out; omega
    · have h8 : k = 8 := by omega
      have hn : (56 - 8 * (k : Int)) = -8 := by omega
      rw [h8, List.take_of_length_le (by rw [beI_length]; exact Nat.le_refl _)] at hown
      rw [hn]
      clear hn h8 hlt hk
      have hn0 : (v.length : Int) ≤ 40000 := by omega
      go_wp2_with (at_builtin; refine wpList_append_own _ rfl (.tmp 23) (.tmp 24) 46 rfl (w.heap.size + 1) 5 i0 (.int .u8 0) 1 1 Try.underlying46 hi hz0 hz1 hz2 rfl (by decide) _ 8 _ rfl hown ⟨w.heap.size, 0, none⟩ 6 6 [.int .u8 m0, .int .u8 m1, .int .u8 m2, .int .u8 m3, .int .u8 m4, .int .u8 m5] rfl rfl ?c1 ?c2 ?c3 ?c4 ?c5 ?_)
      case c1 => exact blk_cells (C := [.int .u8 m0, .int .u8 m1, .int .u8 m2, .int .u8 m3, .int .u8 m4, .int .u8 m5]) hB
      case c2 => simp [Value.oneCell']
      case c3 => unfold maxLen; omega
      case c4 => omega
      case c5 => omega
      intro v1 w1 hown1 hgr1 _
      have hF1 : Fr [] w w1 := hF.grown hgr1 (fun k hk => by have := own_new hown k hk; omega)
      have hl1 : w.heap.size + 1 ≤ w1.heap.size := by have := hgr1.size; omega
      clear hgr1 hown hF hB
      go_wp2_with (at_builtin; refine wpList_append_own _ rfl (.tmp 28) (.tmp 40) 46 rfl (w.heap.size + 1) 5 i0 (.int .u8 0) 1 1 Try.underlying46 hi hz0 hz1 hz2 rfl (by decide) v1 14 _ rfl (hown1.alloc _) ⟨w1.heap.size, 0, none⟩ 4 4 [.int .u8 ((v.length : Int) / 16777216), .int .u8 ((v.length : Int) / 65536), .int .u8 ((v.length : Int) / 256), .int .u8 ((v.length : Int) % 256)] rfl rfl ?d1 ?d2 ?d3 ?d4 ?d5 ?_)
      case d1 => exact new_cells _ _ _
      case d2 => simp [Value.oneCell']
      case d3 => unfold maxLen; omega
      case d4 => omega
      case d5 => simp; omega
      intro v2 w2 hown2 hgr2 _
      have hF2 : Fr [] w w2 := (hF1.alloc _).grown hgr2 (fun k hk => by have := own_new hown1 k hk; omega)
      clear hgr2 hown1 hF1
      have hown3 : w2.ownsRow (w.heap.size + 1) 5 1 v2 18 ((beI 8 e ++ [m0, m1, m2, m3, m4, m5] ++ beI 4 (v.length : Int)).map (Value.int .u8)) := by
        have hb : beI 4 (v.length : Int) = [(v.length : Int) / 16777216, (v.length : Int) / 65536, (v.length : Int) / 256, (v.length : Int) % 256] := by
          simp [beI_cons, beI]
          omega
        rw [hb, List.map_append, List.map_append, List.append_assoc]
        exact hown2
      have hcv := run_str_any (P := Try.prog) Try.underlying46 Try.underlying5 Try.underlying9 (beI 8 e ++ [m0, m1, m2, m3, m4, m5] ++ beI 4 (v.length : Int)) _ hown3
      have hX : bytesOf (beI 8 e ++ [m0, m1, m2, m3, m4, m5] ++ beI 4 (v.length : Int)) = be 8 e ++ bytesOf [m0, m1, m2, m3, m4, m5] ++ be 4 v.length := by
        rw [be_bytesOf, be_bytesOf]
        unfold bytesOf
        rw [List.map_append, List.map_append]
      have hck : cookL e [m0, m1, m2, m3, m4, m5] v s = be 8 e ++ bytesOf [m0, m1, m2, m3, m4, m5] ++ be 4 v.length ++ (v ++ s) := by
        unfold cookL
        simp only [List.append_assoc]
      have hXl : (be 8 e ++ bytesOf [m0, m1, m2, m3, m4, m5] ++ be 4 (v.length : Int)).length = 18 := by
        simp only [List.length_append, be_length]; rfl
      rw [hX] at hcv
      obtain ⟨X, hX'⟩ : ∃ X, be 8 e ++ bytesOf [m0, m1, m2, m3, m4, m5] ++ be 4 (v.length : Int) = X := ⟨_, rfl⟩
      rw [hX'] at hcv hck hXl
      have hq1 : ¬ 9223372036854775807 < X.length + v.length := by omega
      have hq2 : ¬ 9223372036854775807 < X.length + v.length + s.length := by omega
      have hq3 : ¬ 9223372036854775807 < X.length + (v.length + s.length) := by omega
      have hq4 : ¬ 9223372036854775807 < v.length + s.length := by omega
      have Hck := Lib.hid hck
      have HXl := Lib.hid hXl
      clear hX hX' hck hXl hown2 hown3
      go_wp2_with fail
      refine (md5_any (X ++ (v ++ s)) _ (by have := HLb.out; rw [Hck.out] at this; exact this)).mono ?_
      rw [← Hck.out]
      rintro r w3 ⟨rfl, hF3⟩
      go_wp2_with fail
      refine (text_any (md5 (cookL e [m0, m1, m2, m3, m4, m5] v s)) _ (md5_length _)).mono ?_
      rintro r w4 ⟨rfl, hF4⟩
      go_wp2
      go_ret
      exact ⟨rfl, (hF2.trans hF3).trans hF4⟩
end Go.Proofs.Ytgeoldcddfmgnaa
