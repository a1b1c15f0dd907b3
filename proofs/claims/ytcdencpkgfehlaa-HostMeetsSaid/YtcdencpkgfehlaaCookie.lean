/- Cookies: the program's alone (Cookie.tpl, Make.tpl, Check.tpl without the document's). -/
import Derived.Test.YtcdencpkgfehlaaMgB
import Derived.Test.YtcdencpkgfehlaaSameB
import Derived.Test.YtcdencpkgfehlaaTagP
import Derived.Deep.DrawnRows
namespace Go.Proofs.Ytcdencpkgfehlaa
open Go.RowKit
set_option linter.unusedVariables false
theorem epoch_any (t : Int) (w : World) (h0 : -9223372036854775808 ≤ t) (h1 : t ≤ 9223372036854775807) :
    Calls Try.prog 56 #[.int .i64 t] w fun e w' => e = .returned (.int .i64 (t / 64)) ∧ w = w' := by
  go_enter Try.func56, Try.ntmps56
  go_wp2
  go_ret
  exact ⟨rfl, rfl⟩
def beI : Nat → Int → List Int
  | 0, _ => []
  | n + 1, v => beI n (v / 256) ++ [v % 256]
theorem beI_length (n : Nat) (v : Int) : (beI n v).length = n := by
  induction n generalizing v with
  | zero => rfl
  | succ n ih => simp [beI, ih]
theorem be_bytesOf (n : Nat) (v : Int) : be n v = bytesOf (beI n v) := by
  induction n generalizing v with
  | zero => rfl
  | succ n ih => simp [beI, be, ih, bytesOf]
theorem beI_cons (n : Nat) (v : Int) : beI (n + 1) v = (v / 256 ^ n % 256) :: beI n v := by
  induction n generalizing v with
  | zero => simp [beI]
  | succ n ih =>
    rw [beI, ih (v / 256)]
    show _ = _ :: (beI n (v / 256) ++ [v % 256])
    have e : v / 256 / 256 ^ n = v / 256 ^ (n + 1) := by
      rw [Int.ediv_ediv_of_nonneg (by omega), Int.pow_succ, Int.mul_comm]
    rw [e]; rfl
theorem div_pow_succ (v : Int) (j : Nat) : v / 256 ^ j / 256 = v / 256 ^ (j + 1) := by
  rw [Int.ediv_ediv_of_nonneg (Int.le_of_lt (Int.pow_pos (by omega))), Int.pow_succ]
theorem div_pow_bd (v : Int) (j : Nat) (h : -9223372036854775808 ≤ v ∧ v ≤ 9223372036854775807) : -9223372036854775808 ≤ v / 256 ^ j ∧ v / 256 ^ j ≤ 9223372036854775807 := by
  induction j with
  | zero => simpa using h
  | succ j ih => rw [← div_pow_succ]; omega
def cookL (e : Int) (ms : List Int) (v s : List UInt8) : List UInt8 := be 8 e ++ (bytesOf ms ++ (be 4 v.length ++ (v ++ s)))
theorem cookL_length (e : Int) (ms : List Int) (v s : List UInt8) : (cookL e ms v s).length = ms.length + v.length + s.length + 12 := by
  unfold cookL
  simp only [List.length_append, be_length]
  simp [bytesOf]
  omega
theorem beI_take (e : Int) (k : Nat) (hk : k < 8) : (beI 8 e).take (k + 1) = (beI 8 e).take k ++ [e / 2 ^ (56 - 8 * k) % 256] := by
  have h : k = 0 ∨ k = 1 ∨ k = 2 ∨ k = 3 ∨ k = 4 ∨ k = 5 ∨ k = 6 ∨ k = 7 := by omega
  rcases h with rfl | rfl | rfl | rfl | rfl | rfl | rfl | rfl <;> (simp [beI_cons, beI]; try omega)

def mac6 (m0 m1 m2 m3 m4 m5 : Int) : Array Value := #[.int .u8 m0, .int .u8 m1, .int .u8 m2, .int .u8 m3, .int .u8 m4, .int .u8 m5]
set_option maxRecDepth 100000 in
theorem slMac (g : Nat) (w : World) :
    (Instr.sliceAt 28 (.pointer (some ⟨g, 0, none⟩)) none none none).run Try.prog w = .ok (.slice (some ⟨g, 0, none⟩) 6 6) w := by
  have ha : Try.prog.arrayLen 28 = 6 := by kernel_rfl
  have hs : (sizeOf (Try.prog.elem 28)).run Try.prog w = .ok 1 w := by kernel_rfl
  rw [run_sliceAt_array_all w 28 ⟨g, 0, none⟩ Try.underlying28, hs, ha]
  rfl
theorem blk_cells {w : World} {b T : Nat} {C : List Value} (h : Blk w b C.toArray T) : ∀ j u, C[j]? = some u → w.cell? ((⟨b, 0, none⟩ : Addr).add j) = some u := by
  intro j u hu
  have hp : (⟨b, 0, none⟩ : Addr).add j = ⟨b, j, none⟩ := by unfold Addr.add; split <;> simp_all
  rw [hp]
  exact h.c j u (by simpa using hu)

set_option maxRecDepth 100000 in
set_option maxHeartbeats 2000000 in
theorem of_any (s : List UInt8) (m0 m1 m2 m3 m4 m5 : Int) (v : List UInt8) (e : Int) (w : World) (e0 : -9223372036854775808 ≤ e) (e1 : e ≤ 9223372036854775807) (hs : s.length ≤ 40000) (hv : v.length ≤ 40000) :
    Calls Try.prog 55 #[.string (B s), .agg #[.int .u8 m0, .int .u8 m1, .int .u8 m2, .int .u8 m3, .int .u8 m4, .int .u8 m5], .string (B v), .int .i64 e] w
      fun r w' => r = .returned (.string (B (md5 (cookL e [m0, m1, m2, m3, m4, m5] v s)))) ∧ Fr [] w w' := by
  obtain ⟨i0, hi, hz0, hz1, hz2⟩ := info_parts infoU8
  have hLl := cookL_length e [m0, m1, m2, m3, m4, m5] v s
  have hLb : (cookL e [m0, m1, m2, m3, m4, m5] v s).length ≤ 100000 := by rw [hLl]; simp; omega
  have HLb := Lib.hid hLb
  clear hLl hLb
  have hsl := fun w' => slMac w.heap.size w'
  go_enter Try.func55, Try.ntmps55
  go_wp2
  go_loopw [9, 10] (fun bv iv wr => ∃ k : Nat, k ≤ 8 ∧ iv = .int .i64 (56 - 8 * (k : Int)) ∧ wr.ownsRow (w.heap.size + 1) 5 1 bv k (((beI 8 e).take k).map (Value.int .u8)) ∧ Blk wr w.heap.size (mac6 m0 m1 m2 m3 m4 m5) 28 ∧ Fr [] w wr) (fun _ iv _ => (intOf iv + 8).toNat)
  case atStart => exact ⟨0, by omega, rfl, World.ownsRow_nil _ _ _ _, Blk.new _ _ _, (Fr.refl _ _).alloc _⟩
  case round =>
    obtain ⟨k, hk, rfl, hown, hB, hF⟩ := hrel
    have hlb := hB.lt
    by_cases hlt : k < 8
    · obtain ⟨i, hi'⟩ : ∃ i : Nat, 56 - 8 * (k : Int) = i := ⟨(56 - 8 * (k : Int)).toNat, by omega⟩
      have hik : i = 56 - 8 * k := by omega
      have i56 : i ≤ 56 := by omega
      have htk := beI_take e k hlt
      rw [← hik] at htk
      rw [hi']
      have Hik := Lib.hid hi'
      have Htk := Lib.hid htk
      clear hi' hik htk
      go_wp2_with (at_builtin; refine wpList_append_own _ rfl _ _ 57 rfl (w.heap.size + 1) 5 i0 (.int .u8 0) 1 1 Try.underlying57 hi hz0 hz1 hz2 rfl (by decide) _ _ _ rfl (hown.alloc _) ⟨wr.heap.size, 0, none⟩ 1 1 [.int .u8 (e / 2 ^ i % 256)] rfl rfl ?c1 ?c2 ?c3 ?c4 ?c5 ?_)
      case c1 => exact new_cells _ _ _
      case c2 => simp [Value.oneCell']
      case c3 => unfold maxLen; omega
      case c4 => omega
      case c5 => simp; omega
      intro v' w1 hown' hgr' _
      have hF1 : Fr [] w w1 := (hF.alloc _).grown hgr' (fun k hk => by have := own_new hown k hk; omega)
      have hB1 : Blk w1 w.heap.size (mac6 m0 m1 m2 m3 m4 m5) 28 := (hB.alloc _).grown hgr' (fun k hk => by have := own_new hown k hk; omega)
      clear hgr' hown hF hB
      go_wp2
      go_roundw
      case rel =>
        refine ⟨k + 1, by omega, by have := Hik.out; congr 1; omega, ?_, hB1, hF1⟩
        rw [Htk.out, List.map_append, List.map_take]
        exact hown'
      case measure => simp [intOf]; have := Hik.out; omega
    · have h8 : k = 8 := by omega
      have hn : (56 - 8 * (k : Int)) = -8 := by omega
      rw [h8, List.take_of_length_le (by rw [beI_length]; exact Nat.le_refl _)] at hown
      rw [hn]
      clear hn h8 hlt hk
      have hn0 : (v.length : Int) ≤ 40000 := by omega
      go_wp2_with (at_builtin; refine wpList_append_own _ rfl (.tmp 23) (.tmp 24) 57 rfl (w.heap.size + 1) 5 i0 (.int .u8 0) 1 1 Try.underlying57 hi hz0 hz1 hz2 rfl (by decide) _ 8 _ rfl hown ⟨w.heap.size, 0, none⟩ 6 6 [.int .u8 m0, .int .u8 m1, .int .u8 m2, .int .u8 m3, .int .u8 m4, .int .u8 m5] rfl rfl ?c1 ?c2 ?c3 ?c4 ?c5 ?_)
      case c1 => exact blk_cells (C := [.int .u8 m0, .int .u8 m1, .int .u8 m2, .int .u8 m3, .int .u8 m4, .int .u8 m5]) hB
      case c2 => simp [Value.oneCell']
      case c3 => unfold maxLen; omega
      case c4 => omega
      case c5 => omega
      intro v1 w1 hown1 hgr1 _
      have hF1 : Fr [] w w1 := hF.grown hgr1 (fun k hk => by have := own_new hown k hk; omega)
      have hl1 : w.heap.size + 1 ≤ w1.heap.size := by have := hgr1.size; omega
      clear hgr1 hown hF hB
      go_wp2_with (at_builtin; refine wpList_append_own _ rfl (.tmp 28) (.tmp 40) 57 rfl (w.heap.size + 1) 5 i0 (.int .u8 0) 1 1 Try.underlying57 hi hz0 hz1 hz2 rfl (by decide) v1 14 _ rfl (hown1.alloc _) ⟨w1.heap.size, 0, none⟩ 4 4 [.int .u8 ((v.length : Int) / 16777216), .int .u8 ((v.length : Int) / 65536), .int .u8 ((v.length : Int) / 256), .int .u8 ((v.length : Int) % 256)] rfl rfl ?d1 ?d2 ?d3 ?d4 ?d5 ?_)
      case d1 => exact new_cells _ _ _
      case d2 => simp [Value.oneCell']
      case d3 => unfold maxLen; omega
      case d4 => omega
      case d5 => simp; omega
      intro v2 w2 hown2 hgr2 _
      have hF2 : Fr [] w w2 := (hF1.alloc _).grown hgr2 (fun k hk => by have := own_new hown1 k hk; omega)
      clear hgr2 hown1 hF1
      have hown3 : w2.ownsRow (w.heap.size + 1) 5 1 v2 18 ((beI 8 e ++ [m0, m1, m2, m3, m4, m5] ++ beI 4 (v.length : Int)).map (Value.int .u8)) := by
        have hb : beI 4 (v.length : Int) = [(v.length : Int) / 16777216, (v.length : Int) / 65536, (v.length : Int) / 256, (v.length : Int) % 256] := by
          simp [beI_cons, beI]
          omega
        rw [hb, List.map_append, List.map_append, List.append_assoc]
        exact hown2
      have hcv := run_str_any (P := Try.prog) Try.underlying57 Try.underlying5 Try.underlying9 (beI 8 e ++ [m0, m1, m2, m3, m4, m5] ++ beI 4 (v.length : Int)) _ hown3
      have hX : bytesOf (beI 8 e ++ [m0, m1, m2, m3, m4, m5] ++ beI 4 (v.length : Int)) = be 8 e ++ bytesOf [m0, m1, m2, m3, m4, m5] ++ be 4 v.length := by
        rw [be_bytesOf, be_bytesOf]
        unfold bytesOf
        rw [List.map_append, List.map_append]
      have hck : cookL e [m0, m1, m2, m3, m4, m5] v s = be 8 e ++ bytesOf [m0, m1, m2, m3, m4, m5] ++ be 4 v.length ++ (v ++ s) := by
        unfold cookL
        simp only [List.append_assoc]
      have hXl : (be 8 e ++ bytesOf [m0, m1, m2, m3, m4, m5] ++ be 4 (v.length : Int)).length = 18 := by
        simp only [List.length_append, be_length]; rfl
      rw [hX] at hcv
      obtain ⟨X, hX'⟩ : ∃ X, be 8 e ++ bytesOf [m0, m1, m2, m3, m4, m5] ++ be 4 (v.length : Int) = X := ⟨_, rfl⟩
      rw [hX'] at hcv hck hXl
      have hq1 : ¬ 9223372036854775807 < X.length + v.length := by omega
      have hq2 : ¬ 9223372036854775807 < X.length + v.length + s.length := by omega
      have hq3 : ¬ 9223372036854775807 < X.length + (v.length + s.length) := by omega
      have hq4 : ¬ 9223372036854775807 < v.length + s.length := by omega
      have Hck := Lib.hid hck
      have HXl := Lib.hid hXl
      clear hX hX' hck hXl hown2 hown3
      go_wp2_with fail
      refine (md5_any (X ++ (v ++ s)) _ (by have := HLb.out; rw [Hck.out] at this; exact this)).mono ?_
      rw [← Hck.out]
      rintro r w3 ⟨rfl, hF3⟩
      go_wp2_with fail
      refine (text_any (md5 (cookL e [m0, m1, m2, m3, m4, m5] v s)) _ (md5_length _)).mono ?_
      rintro r w4 ⟨rfl, hF4⟩
      go_wp2
      go_ret
      exact ⟨rfl, (hF2.trans hF3).trans hF4⟩
def CkS (w0 : World) (m0 m1 m2 m3 m4 m5 : Int) (w1 : World) : Prop :=
  w1.cell? ⟨w0.heap.size, 0, none⟩ = some (.int .u8 m0) ∧ w1.cell? ⟨w0.heap.size, 1, none⟩ = some (.int .u8 m1) ∧ w1.cell? ⟨w0.heap.size, 2, none⟩ = some (.int .u8 m2) ∧ w1.cell? ⟨w0.heap.size, 3, none⟩ = some (.int .u8 m3) ∧ w1.cell? ⟨w0.heap.size, 4, none⟩ = some (.int .u8 m4) ∧ w1.cell? ⟨w0.heap.size, 5, none⟩ = some (.int .u8 m5) ∧ Blk w1 w0.heap.size #[.int .u8 m0, .int .u8 m1, .int .u8 m2, .int .u8 m3, .int .u8 m4, .int .u8 m5] 28 ∧ Fr [] w0 w1
theorem CkS.mk {w0 w1 : World} {m0 m1 m2 m3 m4 m5 : Int} (h : Blk w1 w0.heap.size #[.int .u8 m0, .int .u8 m1, .int .u8 m2, .int .u8 m3, .int .u8 m4, .int .u8 m5] 28) (k : Fr [] w0 w1) : CkS w0 m0 m1 m2 m3 m4 m5 w1 :=
  ⟨h.c 0 _ rfl, h.c 1 _ rfl, h.c 2 _ rfl, h.c 3 _ rfl, h.c 4 _ rfl, h.c 5 _ rfl, h, k⟩
theorem CkS.call {w0 w1 w2 : World} {m0 m1 m2 m3 m4 m5 : Int} (h : CkS w0 m0 m1 m2 m3 m4 m5 w1) (k : Fr [] w1 w2) : CkS w0 m0 m1 m2 m3 m4 m5 w2 :=
  CkS.mk (k.blk h.2.2.2.2.2.2.1 (by simp)) (h.2.2.2.2.2.2.2.trans k)

set_option maxHeartbeats 1000000 in
theorem make_any (s : List UInt8) (m0 m1 m2 m3 m4 m5 : Int) (v : List UInt8) (t : Int) (w : World) (t0 : -9223372036854775808 ≤ t) (t1 : t ≤ 9223372036854775807) (hs : s.length ≤ 40000) (hv : v.length ≤ 40000) :
    Calls Try.prog 26 #[.string (B s), .agg #[.int .u8 m0, .int .u8 m1, .int .u8 m2, .int .u8 m3, .int .u8 m4, .int .u8 m5], .string (B v), .int .i64 t] w
      fun r w' => r = .returned (.string (B (md5 (cookL (t / 64) [m0, m1, m2, m3, m4, m5] v s)))) ∧ Fr [] w w' := by
  have e0 : -9223372036854775808 ≤ t / 64 := by omega
  have e1 : t / 64 ≤ 9223372036854775807 := by omega
  go_enter Try.func26, Try.ntmps26
  go_wp2_with fail
  obtain ⟨W, hW⟩ : ∃ W, w.alloc (.cells #[.int .u8 m0, .int .u8 m1, .int .u8 m2, .int .u8 m3, .int .u8 m4, .int .u8 m5] 28) = W := ⟨_, rfl⟩
  have hB : Blk W w.heap.size #[.int .u8 m0, .int .u8 m1, .int .u8 m2, .int .u8 m3, .int .u8 m4, .int .u8 m5] 28 := by rw [← hW]; exact Blk.new _ _ _
  have hF : Fr [] w W := by rw [← hW]; exact (Fr.refl _ _).alloc _
  rw [hW]
  clear hW
  have hG : CkS w m0 m1 m2 m3 m4 m5 W.drew := CkS.mk hB.drew hF.drew
  go_region_held3 (fun w' => w'.cell? ⟨w.heap.size, 0, none⟩ = some (.int .u8 m0) ∧ w'.cell? ⟨w.heap.size, 1, none⟩ = some (.int .u8 m1) ∧ w'.cell? ⟨w.heap.size, 2, none⟩ = some (.int .u8 m2) ∧ w'.cell? ⟨w.heap.size, 3, none⟩ = some (.int .u8 m3) ∧ w'.cell? ⟨w.heap.size, 4, none⟩ = some (.int .u8 m4) ∧ w'.cell? ⟨w.heap.size, 5, none⟩ = some (.int .u8 m5) ∧ Blk w' w.heap.size #[.int .u8 m0, .int .u8 m1, .int .u8 m2, .int .u8 m3, .int .u8 m4, .int .u8 m5] 28 ∧ Fr [] w w')
    (first | exact hG | assumption | exact CkS.call (by assumption) (by assumption))
    (first
      | (go_at_call 56; refine (epoch_any t _ t0 t1).mono ?_; rintro r w3 ⟨rfl, rfl⟩)
      | (go_at_call 55; refine (of_any s m0 m1 m2 m3 m4 m5 v (t / 64) _ e0 e1 hs hv).mono ?_; rintro r w3 ⟨rfl, hF3⟩))
  all_goals (go_wp2; go_ret; exact ⟨rfl, by go_split_ands; assumption⟩)
attribute [local go_sem ↓] Go.wp_at_zero Go.wp_at_succ

theorem same_f (a b : List UInt8) (w : World) (ha : a.length ≤ 140737488351232) (hb : b.length ≤ 140737488351232) :
    Calls Try.prog 60 #[.string (B a), .string (B b)] w fun e w' => e = .returned (.bool (sameB a b)) ∧ Fr [] w w' := by
  refine (same_b a b w ha hb).mono ?_
  rintro e w' ⟨rfl, n, rfl⟩
  exact ⟨rfl, (Fr.refl _ _).drewN n⟩
theorem beq_same (a b : List UInt8) : (a == b) = sameB a b := by unfold sameB; rw [Bool.eq_iff_iff, beq_iff_eq, decide_eq_true_eq]
set_option maxHeartbeats 2000000 in
theorem check_any (s : List UInt8) (m0 m1 m2 m3 m4 m5 : Int) (v c : List UInt8) (t : Int) (w : World) (t0 : -9223372036854775808 ≤ t) (t1 : t ≤ 9223372036854775807) (hs : s.length ≤ 40000) (hv : v.length ≤ 40000) (hc : c.length ≤ 40000) :
    Calls Try.prog 28 #[.string (B s), .agg #[.int .u8 m0, .int .u8 m1, .int .u8 m2, .int .u8 m3, .int .u8 m4, .int .u8 m5], .string (B v), .string (B c), .int .i64 t] w
      fun r w' => r = .returned (.bool (sameB c (md5 (cookL (t / 64 - 1) [m0, m1, m2, m3, m4, m5] v s)) || sameB c (md5 (cookL (t / 64) [m0, m1, m2, m3, m4, m5] v s)))) ∧ Fr [] w w' := by
  have e0 : -9223372036854775808 ≤ t / 64 := by omega
  have e1 : t / 64 ≤ 9223372036854775807 := by omega
  have e2 : -9223372036854775808 ≤ t / 64 - 1 := by omega
  have e3 : t / 64 - 1 ≤ 9223372036854775807 := by omega
  have hw1 : IntKind.i64.wrap (t / 64 - 1) = t / 64 - 1 := IntWalk.i64_in _ (by omega)
  have l0 : (md5 (cookL (t / 64) [m0, m1, m2, m3, m4, m5] v s)).length ≤ 140737488351232 := by rw [md5_length]; omega
  have l1 : (md5 (cookL (t / 64 - 1) [m0, m1, m2, m3, m4, m5] v s)).length ≤ 140737488351232 := by rw [md5_length]; omega
  obtain ⟨D0, hD0⟩ : ∃ D, md5 (cookL (t / 64) [m0, m1, m2, m3, m4, m5] v s) = D := ⟨_, rfl⟩
  obtain ⟨D1, hD1⟩ : ∃ D, md5 (cookL (t / 64 - 1) [m0, m1, m2, m3, m4, m5] v s) = D := ⟨_, rfl⟩
  rw [hD0] at l0 ⊢
  rw [hD1] at l1 ⊢
  have H0 := Lib.hid hD0
  have H1 := Lib.hid hD1
  clear hD0 hD1
  have of0 : ∀ W, Calls Try.prog 55 #[.string (B s), .agg #[.int .u8 m0, .int .u8 m1, .int .u8 m2, .int .u8 m3, .int .u8 m4, .int .u8 m5], .string (B v), .int .i64 (t / 64)] W fun r w' => r = .returned (.string (B D0)) ∧ Fr [] W w' := fun W => by rw [← H0.out]; exact of_any s m0 m1 m2 m3 m4 m5 v (t / 64) W e0 e1 hs hv
  have of1 : ∀ W, Calls Try.prog 55 #[.string (B s), .agg #[.int .u8 m0, .int .u8 m1, .int .u8 m2, .int .u8 m3, .int .u8 m4, .int .u8 m5], .string (B v), .int .i64 (t / 64 - 1)] W fun r w' => r = .returned (.string (B D1)) ∧ Fr [] W w' := fun W => by rw [← H1.out]; exact of_any s m0 m1 m2 m3 m4 m5 v (t / 64 - 1) W e2 e3 hs hv
  have Of0 := Lib.hid of0
  have Of1 := Lib.hid of1
  clear of0 of1
  have lc : c.length ≤ 140737488351232 := by omega
  cases hx1 : sameB c D1 with
  | false =>
    go_enter Try.func28, Try.ntmps28
    go_wp2_with fail
    obtain ⟨W, hW⟩ : ∃ W, w.alloc (.cells #[.int .u8 m0, .int .u8 m1, .int .u8 m2, .int .u8 m3, .int .u8 m4, .int .u8 m5] 28) = W := ⟨_, rfl⟩
    have hB : Blk W w.heap.size #[.int .u8 m0, .int .u8 m1, .int .u8 m2, .int .u8 m3, .int .u8 m4, .int .u8 m5] 28 := by rw [← hW]; exact Blk.new _ _ _
    have hF : Fr [] w W := by rw [← hW]; exact (Fr.refl _ _).alloc _
    rw [hW]
    clear hW
    have hG : CkS w m0 m1 m2 m3 m4 m5 W.drew := CkS.mk hB.drew hF.drew
    go_region_held3 (fun w' => w'.cell? ⟨w.heap.size, 0, none⟩ = some (.int .u8 m0) ∧ w'.cell? ⟨w.heap.size, 1, none⟩ = some (.int .u8 m1) ∧ w'.cell? ⟨w.heap.size, 2, none⟩ = some (.int .u8 m2) ∧ w'.cell? ⟨w.heap.size, 3, none⟩ = some (.int .u8 m3) ∧ w'.cell? ⟨w.heap.size, 4, none⟩ = some (.int .u8 m4) ∧ w'.cell? ⟨w.heap.size, 5, none⟩ = some (.int .u8 m5) ∧ Blk w' w.heap.size #[.int .u8 m0, .int .u8 m1, .int .u8 m2, .int .u8 m3, .int .u8 m4, .int .u8 m5] 28 ∧ Fr [] w w')
      (first | exact hG | assumption | exact CkS.call (by assumption) (by assumption))
      (first
        | (go_at_call 56; refine (epoch_any t _ t0 t1).mono ?_; rintro r w3 ⟨rfl, rfl⟩)
        | (go_at_call 55; refine (Of0.out _).mono ?_; rintro r w3 ⟨rfl, hF3⟩)
        | (go_at_call 60; refine (same_f c D0 _ lc l0).mono ?_; rintro r w3 ⟨rfl, hF3⟩))
    all_goals
      have hG2 : CkS w m0 m1 m2 m3 m4 m5 w3 := by assumption
      go_wp2_with fail
      have hG3 := CkS.mk (hG2.2.2.2.2.2.2.1.drew) (hG2.2.2.2.2.2.2.2.drew)
      clear hG hG2
      go_region_held3 (fun w' => w'.cell? ⟨w.heap.size, 0, none⟩ = some (.int .u8 m0) ∧ w'.cell? ⟨w.heap.size, 1, none⟩ = some (.int .u8 m1) ∧ w'.cell? ⟨w.heap.size, 2, none⟩ = some (.int .u8 m2) ∧ w'.cell? ⟨w.heap.size, 3, none⟩ = some (.int .u8 m3) ∧ w'.cell? ⟨w.heap.size, 4, none⟩ = some (.int .u8 m4) ∧ w'.cell? ⟨w.heap.size, 5, none⟩ = some (.int .u8 m5) ∧ Blk w' w.heap.size #[.int .u8 m0, .int .u8 m1, .int .u8 m2, .int .u8 m3, .int .u8 m4, .int .u8 m5] 28 ∧ Fr [] w w')
        (first | exact hG3 | assumption | exact CkS.call (by assumption) (by assumption))
        (first
          | (go_at_call 56; refine (epoch_any t _ t0 t1).mono ?_; rintro r w3 ⟨rfl, rfl⟩)
          | (go_at_call 55; refine (Of1.out _).mono ?_; rintro r w3 ⟨rfl, hF3⟩)
          | (go_at_call 60; refine (same_f c D1 _ lc l1).mono ?_; rintro r w3 ⟨rfl, hF3⟩))
      all_goals (go_wp2; go_ret; exact ⟨rfl, by go_split_ands; assumption⟩)
  | true =>
    go_enter Try.func28, Try.ntmps28
    go_wp2_with fail
    obtain ⟨W, hW⟩ : ∃ W, w.alloc (.cells #[.int .u8 m0, .int .u8 m1, .int .u8 m2, .int .u8 m3, .int .u8 m4, .int .u8 m5] 28) = W := ⟨_, rfl⟩
    have hB : Blk W w.heap.size #[.int .u8 m0, .int .u8 m1, .int .u8 m2, .int .u8 m3, .int .u8 m4, .int .u8 m5] 28 := by rw [← hW]; exact Blk.new _ _ _
    have hF : Fr [] w W := by rw [← hW]; exact (Fr.refl _ _).alloc _
    rw [hW]
    clear hW
    have hG : CkS w m0 m1 m2 m3 m4 m5 W.drew := CkS.mk hB.drew hF.drew
    go_region_held3 (fun w' => w'.cell? ⟨w.heap.size, 0, none⟩ = some (.int .u8 m0) ∧ w'.cell? ⟨w.heap.size, 1, none⟩ = some (.int .u8 m1) ∧ w'.cell? ⟨w.heap.size, 2, none⟩ = some (.int .u8 m2) ∧ w'.cell? ⟨w.heap.size, 3, none⟩ = some (.int .u8 m3) ∧ w'.cell? ⟨w.heap.size, 4, none⟩ = some (.int .u8 m4) ∧ w'.cell? ⟨w.heap.size, 5, none⟩ = some (.int .u8 m5) ∧ Blk w' w.heap.size #[.int .u8 m0, .int .u8 m1, .int .u8 m2, .int .u8 m3, .int .u8 m4, .int .u8 m5] 28 ∧ Fr [] w w')
      (first | exact hG | assumption | exact CkS.call (by assumption) (by assumption))
      (first
        | (go_at_call 56; refine (epoch_any t _ t0 t1).mono ?_; rintro r w3 ⟨rfl, rfl⟩)
        | (go_at_call 55; refine (Of0.out _).mono ?_; rintro r w3 ⟨rfl, hF3⟩)
        | (go_at_call 60; refine (same_f c D0 _ lc l0).mono ?_; rintro r w3 ⟨rfl, hF3⟩))
    all_goals
      have hG2 : CkS w m0 m1 m2 m3 m4 m5 w3 := by assumption
      go_wp2_with fail
      have hG3 := CkS.mk (hG2.2.2.2.2.2.2.1.drew) (hG2.2.2.2.2.2.2.2.drew)
      clear hG hG2
      obtain ⟨k0, k1, k2, k3, k4, k5, hBk, hFk⟩ := hG3
      first | (go_region_with (first
          | (go_at_call 56; refine (epoch_any t _ t0 t1).mono ?_; rintro r w5 ⟨rfl, rfl⟩)
          | (go_at_call 55; refine (Of1.out _).mono ?_; rintro r w6 ⟨rfl, hF6⟩)
          | (go_at_call 60; refine (same_f c D1 _ lc l1).mono ?_; rintro r w7 ⟨rfl, hF7⟩))) | fail
      all_goals (go_wp2; go_ret; exact ⟨rfl, (hFk.trans hF6).trans hF7⟩)
end Go.Proofs.Ytcdencpkgfehlaa
