/- PoolAdds, walked. -/
import Derived.Test.YtnenmgankgadcaaLawPo2
import Derived.Test.YtnenmgankgadcaaRDigits
namespace Go.Proofs.Ytnenmgankgadcaa
open Go.RowKit Go.Maps
set_option linter.unusedVariables false

theorem addrNum_any (a b c d : Int) (w : World) (ha : u8 a) (hb : u8 b) (hc : u8 c) (hd : u8 d) :
    Calls Try.prog 27 #[.agg (adr a b c d)] w fun e w' => e = .returned (.int .i64 (num4 a b c d)) ∧ Fr [] w w' := by
  unfold u8 at ha hb hc hd
  obtain ⟨a0, a1⟩ := ha
  obtain ⟨b0, b1⟩ := hb
  obtain ⟨c0, c1⟩ := hc
  obtain ⟨d0, d1⟩ := hd
  unfold adr
  go_enter Try.func27, Try.ntmps27
  go_wp2
  go_ret
  exact ⟨rint (by unfold num4; omega), (Fr.refl _ _).alloc _⟩
set_option maxHeartbeats 1000000 in
theorem numAddr_any (x : Int) (w : World) (x0 : -9223372036854775808 ≤ x) (x1 : x ≤ 9223372036854775807) :
    Calls Try.prog 26 #[.int .i64 x] w fun e w' => e = .returned (.agg (adrN x)) ∧ Fr [] w w' := by
  go_enter Try.func26, Try.ntmps26
  go_wp2
  exact ret_cell1 2 23 rfl w.heap.size 23 (adrN x) _ (Blk.new w _ _) rfl Try.underlying23 rfl (by kernel_rfl) rfl ⟨rfl, (Fr.refl _ _).alloc _⟩
theorem adrN_congr {x y : Int} (h : x % 4294967296 = y % 4294967296) : adrN x = adrN y := by rw [← adrN_mod x, ← adrN_mod y, h]
theorem wrap_mod (x : Int) : IntKind.i64.wrap x % 4294967296 = x % 4294967296 := by rw [IntKind.wrap_i64]; omega
theorem wrap_in (x : Int) : -9223372036854775808 ≤ IntKind.i64.wrap x ∧ IntKind.i64.wrap x ≤ 9223372036854775807 := by rw [IntKind.wrap_i64]; omega
set_option maxHeartbeats 1000000 in
theorem radd_any (a b c d n : Int) (w : World) (ha : u8 a) (hb : u8 b) (hc : u8 c) (hd : u8 d) (n0 : -9223372036854775808 ≤ n) (n1 : n ≤ 9223372036854775807) :
    Calls Try.prog 10 #[.agg (adr a b c d), .int .i64 n] w fun e w' => e = .returned (.agg (adrN (num4 a b c d + n))) ∧ Fr [] w w' := by
  have HN := Lib.hid fun W => addrNum_any a b c d W ha hb hc hd
  obtain ⟨x, hx⟩ : ∃ x, num4 a b c d = x := ⟨_, rfl⟩
  obtain ⟨y, hy⟩ : ∃ y, IntKind.i64.wrap (x + n) = y := ⟨_, rfl⟩
  have hyb := wrap_in (x + n)
  have hm := wrap_mod (x + n)
  rw [hy] at hyb hm
  have HA := Lib.hid fun W => numAddr_any y W hyb.1 hyb.2
  rw [adrN_congr hm] at HA
  have HY := Lib.hid hy
  rw [hx] at HN ⊢
  have hq := HY.out
  unfold adrN adr at HA
  unfold adr at HN
  unfold adrN adr
  clear hyb hm hy hx n0 n1 ha hb hc hd
  go_enter Try.func10, Try.ntmps10
  go_wp2_with fail
  refine (HN.out _).mono ?_
  rintro e w1 ⟨rfl, h1⟩
  have hF := (((Fr.refl [] w).alloc (.cells #[.int .u8 a, .int .u8 b, .int .u8 c, .int .u8 d] 23 (0, 0))).alloc (.cells #[.int .u8 0, .int .u8 0, .int .u8 0, .int .u8 0] 23 (0, 0))).trans h1
  have hBz := Blk.new (w.alloc (.cells #[.int .u8 a, .int .u8 b, .int .u8 c, .int .u8 d] 23 (0, 0))) #[.int .u8 0, .int .u8 0, .int .u8 0, .int .u8 0] 23
  rw [show (w.alloc (.cells #[.int .u8 a, .int .u8 b, .int .u8 c, .int .u8 d] 23 (0, 0))).heap.size = w.heap.size + 1 by simp] at hBz
  have hB1 := h1.blk hBz (by simp)
  have hws : w.heap.size ≤ w.heap.size + 1 := by omega
  obtain ⟨q, hqq⟩ : ∃ q, w.heap.size + 1 = q := ⟨_, rfl⟩
  rw [hqq] at hB1 hws ⊢
  clear hBz h1 hqq
  go_wp2_with fail
  refine (HA.out _).mono ?_
  rintro e w2 ⟨rfl, h2⟩
  have hB2 := h2.blk hB1 (by simp)
  have hF2 := hF.trans h2
  obtain ⟨e0, he0⟩ : ∃ e, (x + n) / 16777216 % 256 = e := ⟨_, rfl⟩
  obtain ⟨e1, he1⟩ : ∃ e, (x + n) / 65536 % 256 = e := ⟨_, rfl⟩
  obtain ⟨e2, he2⟩ : ∃ e, (x + n) / 256 % 256 = e := ⟨_, rfl⟩
  obtain ⟨e3, he3⟩ : ∃ e, (x + n) % 256 = e := ⟨_, rfl⟩
  rw [he0, he1, he2, he3]
  have c0 : w2.cell? ⟨q, 0, none⟩ = some (.int .u8 0) := hB2.c 0 _ rfl
  have c1 : w2.cell? ⟨q, 1, none⟩ = some (.int .u8 0) := hB2.c 1 _ rfl
  have c2 : w2.cell? ⟨q, 2, none⟩ = some (.int .u8 0) := hB2.c 2 _ rfl
  have c3 : w2.cell? ⟨q, 3, none⟩ = some (.int .u8 0) := hB2.c 3 _ rfl
  have f0 := hB2.fz 0
  have f1 := hB2.fz 1
  have f2 := hB2.fz 2
  have f3 := hB2.fz 3
  have HE := Lib.hid (And.intro he0 (And.intro he1 (And.intro he2 he3)))
  clear HA HN HY hq h2 hF hB1 he0 he1 he2 he3
  go_wp2_with fail
  have hB4 := (((hB2.set 0 (.int .u8 e0)).set 1 (.int .u8 e1)).set 2 (.int .u8 e2)).set 3 (.int .u8 e3)
  have hF4 : Fr [] w _ := (((hF2.setNew (p := ⟨q, 0, none⟩) hws (.int .u8 e0)).setNew (p := ⟨q, 1, none⟩) hws (.int .u8 e1)).setNew (p := ⟨q, 2, none⟩) hws (.int .u8 e2)).setNew (p := ⟨q, 3, none⟩) hws (.int .u8 e3)
  exact ret_cell1 4 23 rfl q 23 (adr e0 e1 e2 e3) _ hB4 rfl Try.underlying23 rfl (by kernel_rfl) rfl ⟨by obtain ⟨k0, k1, k2, k3⟩ := HE.out; rw [k0, k1, k2, k3]; rfl, hF4⟩

set_option maxRecDepth 100000 in
set_option maxHeartbeats 4000000 in
theorem rtext_any (a b c d : Int) (w : World) (ha : u8 a) (hb : u8 b) (hc : u8 c) (hd : u8 d) :
    Calls Try.prog 12 #[.agg (adr a b c d)] w fun e w' => e = .returned (.string (B (textL a b c d))) ∧ Fr [] w w' := by
  have D0 := Lib.hid fun (W : World) => rdigits_any a W (by unfold u8 at ha; omega) (by unfold u8 at ha; omega)
  have D1 := Lib.hid fun (W : World) => rdigits_any b W (by unfold u8 at hb; omega) (by unfold u8 at hb; omega)
  have D2 := Lib.hid fun (W : World) => rdigits_any c W (by unfold u8 at hc; omega) (by unfold u8 at hc; omega)
  have D3 := Lib.hid fun (W : World) => rdigits_any d W (by unfold u8 at hd; omega) (by unfold u8 at hd; omega)
  have l0 := digL_len a
  have l1 := digL_len b
  have l2 := digL_len c
  have l3 := digL_len d
  have hT : textL a b c d = digL a ++ (46 :: (digL b ++ (46 :: (digL c ++ (46 :: digL d))))) := by
    unfold textL octs
    rw [Lib.join_cons]
    simp [Lib.joinTail]
  rw [hT]
  obtain ⟨L0, hL0⟩ : ∃ l, digL a = l := ⟨_, rfl⟩
  obtain ⟨L1, hL1⟩ : ∃ l, digL b = l := ⟨_, rfl⟩
  obtain ⟨L2, hL2⟩ : ∃ l, digL c = l := ⟨_, rfl⟩
  obtain ⟨L3, hL3⟩ : ∃ l, digL d = l := ⟨_, rfl⟩
  rw [hL0] at l0 D0 ⊢
  rw [hL1] at l1 D1 ⊢
  rw [hL2] at l2 D2 ⊢
  rw [hL3] at l3 D3 ⊢
  clear hT hL0 hL1 hL2 hL3
  unfold u8 at ha hb hc hd
  obtain ⟨a0, a1⟩ := ha
  obtain ⟨b0, b1⟩ := hb
  obtain ⟨c0, c1⟩ := hc
  obtain ⟨d0, d1⟩ := hd
  unfold adr
  go_enter Try.func12, Try.ntmps12
  go_wp2_with fail
  have hB := Blk.new w #[.int .u8 a, .int .u8 b, .int .u8 c, .int .u8 d] 23
  have hF := (Fr.refl [] w).alloc (.cells #[.int .u8 a, .int .u8 b, .int .u8 c, .int .u8 d] 23 (0, 0))
  obtain ⟨w0, hw0⟩ : ∃ W, w.alloc (.cells #[.int .u8 a, .int .u8 b, .int .u8 c, .int .u8 d] 23 (0, 0)) = W := ⟨_, rfl⟩
  obtain ⟨q, hq⟩ : ∃ q, w.heap.size = q := ⟨_, rfl⟩
  rw [hw0] at hB hF ⊢
  rw [hq] at hB ⊢
  clear hw0 hq
  refine wp_loop_rounds 5 ?_
  rw [rounds_succ]
  have q0 : w0.cell? ⟨q, 0, none⟩ = some (.int .u8 a) := hB.c 0 _ rfl
  go_wp2_with fail
  refine (D0.out _).mono ?_
  rintro e w1 ⟨rfl, h1⟩
  have hF1 := hF.trans h1
  have hB1 := h1.blk hB (by simp)
  have q1 : w1.cell? ⟨q, 1, none⟩ = some (.int .u8 b) := hB1.c 1 _ rfl
  clear q0 hF hB h1 D0
  go_wp2_with fail
  rw [rounds_succ]
  go_wp2_with fail
  refine (D1.out _).mono ?_
  rintro e w2 ⟨rfl, h2⟩
  have hF2 := hF1.trans h2
  have hB2 := h2.blk hB1 (by simp)
  have q2 : w2.cell? ⟨q, 2, none⟩ = some (.int .u8 c) := hB2.c 2 _ rfl
  clear q1 hF1 hB1 h2 D1
  go_wp2_with fail
  rw [rounds_succ]
  go_wp2_with fail
  refine (D2.out _).mono ?_
  rintro e w3 ⟨rfl, h3⟩
  have hF3 := hF2.trans h3
  have hB3 := h3.blk hB2 (by simp)
  have q3 : w3.cell? ⟨q, 3, none⟩ = some (.int .u8 d) := hB3.c 3 _ rfl
  clear q2 hF2 hB2 h3 D2
  go_wp2_with fail
  rw [rounds_succ]
  go_wp2_with fail
  refine (D3.out _).mono ?_
  rintro e w4 ⟨rfl, h4⟩
  have hF4 := hF3.trans h4
  clear q3 hF3 hB3 h4 D3
  go_wp2_with fail
  rw [rounds_succ]
  go_wp2_with fail
  go_ret
  exact ⟨by simp, hF4⟩
def S1 (q : Nat) (x : Ad) (w w' : World) : Prop := (w'.cell? ⟨q, 0, none⟩ = some (.int .u8 x.1) ∧ w'.cell? ⟨q, 1, none⟩ = some (.int .u8 x.2.1) ∧ w'.cell? ⟨q, 2, none⟩ = some (.int .u8 x.2.2.1) ∧ w'.cell? ⟨q, 3, none⟩ = some (.int .u8 x.2.2.2)) ∧ Blk w' q (adC x) 23 ∧ Fr [] w w'
theorem S1_of {q : Nat} {x : Ad} {w w' : World} (hB : Blk w' q (adC x) 23) (hF : Fr [] w w') : (w'.cell? ⟨q, 0, none⟩ = some (.int .u8 x.1) ∧ w'.cell? ⟨q, 1, none⟩ = some (.int .u8 x.2.1) ∧ w'.cell? ⟨q, 2, none⟩ = some (.int .u8 x.2.2.1) ∧ w'.cell? ⟨q, 3, none⟩ = some (.int .u8 x.2.2.2)) ∧ Blk w' q (adC x) 23 ∧ Fr [] w w' :=
  ⟨⟨hB.c 0 _ rfl, hB.c 1 _ rfl, hB.c 2 _ rfl, hB.c 3 _ rfl⟩, hB, hF⟩
theorem S1_step {q : Nat} {x : Ad} {w w1 w2 : World} (h : (w1.cell? ⟨q, 0, none⟩ = some (.int .u8 x.1) ∧ w1.cell? ⟨q, 1, none⟩ = some (.int .u8 x.2.1) ∧ w1.cell? ⟨q, 2, none⟩ = some (.int .u8 x.2.2.1) ∧ w1.cell? ⟨q, 3, none⟩ = some (.int .u8 x.2.2.2)) ∧ Blk w1 q (adC x) 23 ∧ Fr [] w w1) (hF : Fr [] w1 w2) :
    (w2.cell? ⟨q, 0, none⟩ = some (.int .u8 x.1) ∧ w2.cell? ⟨q, 1, none⟩ = some (.int .u8 x.2.1) ∧ w2.cell? ⟨q, 2, none⟩ = some (.int .u8 x.2.2.1) ∧ w2.cell? ⟨q, 3, none⟩ = some (.int .u8 x.2.2.2)) ∧ Blk w2 q (adC x) 23 ∧ Fr [] w w2 :=
  S1_of (hF.blk h.2.1 (by simp)) (h.2.2.trans hF)
theorem numb_adq (x : Int) : numb (adq x) = x % 4294967296 := by
  unfold numb adq num4
  simp only
  omega
set_option maxRecDepth 100000 in
set_option maxHeartbeats 20000000 in
theorem poolAdds_walk (w : World) (a : Ad) (ha : AdOk a) (n : Int) (n0 : -9223372036854775808 ≤ n) (n1 : n ≤ 9223372036854775807) (m : Int) (m0 : -9223372036854775808 ≤ m) (m1 : m ≤ 9223372036854775807) :
    Calls Try.prog 3 #[.agg (adC a), .int .i64 n, .int .i64 m] w fun e w' => e = .returned (.bool true) ∧ Below w.heap.size w w' := by
  have A : ∀ (x : Ad) (hx : AdOk x) (k : Int) (k0 : -9223372036854775808 ≤ k) (k1 : k ≤ 9223372036854775807) (y : Ad) (hy : adq (numb x + k) = y) (W : World), Calls Try.prog 9 #[.agg (adC x), .int .i64 k] W fun e w' => e = .returned (.agg (adC y)) ∧ Fr [] W w' := by
    rintro ⟨x0, x1, x2, x3⟩ hx k k0 k1 y rfl W
    exact add_any x0 x1 x2 x3 k W hx.1 hx.2.1 hx.2.2.1 hx.2.2.2 k0 k1
  have R : ∀ (x : Ad) (hx : AdOk x) (k : Int) (k0 : -9223372036854775808 ≤ k) (k1 : k ≤ 9223372036854775807) (y : Ad) (hy : adq (numb x + k) = y) (W : World), Calls Try.prog 10 #[.agg (adC x), .int .i64 k] W fun e w' => e = .returned (.agg (adC y)) ∧ Fr [] W w' := by
    rintro ⟨x0, x1, x2, x3⟩ hx k k0 k1 y rfl W
    exact radd_any x0 x1 x2 x3 k W hx.1 hx.2.1 hx.2.2.1 hx.2.2.2 k0 k1
  have hcong : ∀ x y : Int, x % 4294967296 = y % 4294967296 → adq x = adq y := fun x y h => by
    unfold adq
    simp only [Prod.mk.injEq]
    omega
  have hself : adq (numb a) = a := adq_num ha
  obtain ⟨p, hp⟩ : ∃ p, adq (numb a + n) = p := ⟨_, rfl⟩
  have hpo : AdOk p := by rw [← hp]; exact adq_ok _
  have hpn : numb p = (numb a + n) % 4294967296 := by rw [← hp]; exact numb_adq _
  obtain ⟨nm, hnm⟩ : ∃ k, IntKind.i64.wrap (n + m) = k := ⟨_, rfl⟩
  obtain ⟨nn, hnn⟩ : ∃ k, IntKind.i64.wrap (-n) = k := ⟨_, rfl⟩
  have b1 := wrap_in (n + m)
  have b2 := wrap_in (-n)
  have c1 := wrap_mod (n + m)
  have c2 := wrap_mod (-n)
  rw [hnm] at b1 c1
  rw [hnn] at b2 c2
  obtain ⟨q, hq⟩ : ∃ q, adq (numb p + m) = q := ⟨_, rfl⟩
  have hA1 := A a ha n n0 n1 p hp
  have hR1 := R a ha n n0 n1 p hp
  have hA2 := A p hpo m m0 m1 q hq
  have hA3 := A a ha nm b1.1 b1.2 q (by rw [← hq, hpn]; exact hcong _ _ (by omega))
  have hA4 := A p hpo nn b2.1 b2.2 a (by rw [hpn]; rw [hcong _ (numb a) (by omega)]; exact hself)
  have hA5 := A a ha 4294967296 (by decide) (by decide) a (by rw [hcong _ (numb a) (by omega)]; exact hself)
  have heq : ∀ (x : Ad) W, (Op.equalIn 10000 23 (.agg (adC x)) (.agg (adC x))).run Try.prog W = .ok true W := fun x W => by
    have := eq_ad x x W
    rw [show adEq x x = true by simp [adEq]] at this
    exact this
  have e1 := heq p
  have e2 := heq q
  have e3 := heq a
  obtain ⟨a0, a1, a2, a3⟩ := a
  have T1 := Lib.hid fun W => text_any a0 a1 a2 a3 W ha.1 ha.2.1 ha.2.2.1 ha.2.2.2
  have T2 := Lib.hid fun W => rtext_any a0 a1 a2 a3 W ha.1 ha.2.1 ha.2.2.1 ha.2.2.2
  obtain ⟨T, hT⟩ : ∃ T, textL a0 a1 a2 a3 = T := ⟨_, rfl⟩
  rw [hT] at T1 T2
  obtain ⟨p0, p1, p2, p3⟩ := p
  obtain ⟨q0, q1, q2, q3⟩ := q
  unfold adC adr at hA1 hR1 hA2 hA3 hA4 hA5 e1 e2 e3 ⊢
  unfold adr at T1 T2
  simp only at hA1 hR1 hA2 hA3 hA4 hA5 e1 e2 e3 ⊢
  have HA1 := Lib.hid hA1
  have HR1 := Lib.hid hR1
  have HA2 := Lib.hid hA2
  have HA3 := Lib.hid hA3
  have HA4 := Lib.hid hA4
  have HA5 := Lib.hid hA5
  clear A R hcong hself hp hpo hpn b1 b2 c1 c2 hq hA1 hR1 hA2 hA3 hA4 hA5 heq hT
  go_enter Try.func3, Try.ntmps3
  go_wp2_with fail
  have hB := Blk.new w #[.int .u8 a0, .int .u8 a1, .int .u8 a2, .int .u8 a3] 23
  have hF := (Fr.refl [] w).alloc (.cells #[.int .u8 a0, .int .u8 a1, .int .u8 a2, .int .u8 a3] 23 (0, 0))
  obtain ⟨W, hw0⟩ : ∃ W, w.alloc (.cells #[.int .u8 a0, .int .u8 a1, .int .u8 a2, .int .u8 a3] 23 (0, 0)) = W := ⟨_, rfl⟩
  obtain ⟨g, hg⟩ : ∃ q, w.heap.size = q := ⟨_, rfl⟩
  rw [hw0] at hB hF ⊢
  rw [hg] at hB ⊢
  clear hw0
  have hG := S1_of (x := (a0, a1, a2, a3)) hB.drew (Fr.refl [] W).drew
  go_region_held3 (fun w' => (w'.cell? ⟨g, 0, none⟩ = some (.int .u8 a0) ∧ w'.cell? ⟨g, 1, none⟩ = some (.int .u8 a1) ∧ w'.cell? ⟨g, 2, none⟩ = some (.int .u8 a2) ∧ w'.cell? ⟨g, 3, none⟩ = some (.int .u8 a3)) ∧ Blk w' g (adC (a0, a1, a2, a3)) 23 ∧ Fr [] W w')
    (first | exact hG | assumption | exact S1_step (x := (a0, a1, a2, a3)) (by assumption) hF5)
    (first
      | (go_at_call 8; refine (alive16 _).mono ?_; rintro e w5 ⟨rfl, hF5⟩)
      | (go_at_call 10; refine (HR1.out _).mono ?_; rintro e w5 ⟨rfl, hF5⟩)
      | (go_at_call 11; refine (T1.out _).mono ?_; rintro e w5 ⟨rfl, hF5⟩)
      | (go_at_call 12; refine (T2.out _).mono ?_; rintro e w5 ⟨rfl, hF5⟩)
      | (go_at_call 9; ((with_reducible refine (HA1.out _).mono ?_); rintro e w5 ⟨rfl, hF5⟩))
      | (go_at_call 9; ((with_reducible refine (HA2.out _).mono ?_); rintro e w5 ⟨rfl, hF5⟩))
      | (go_at_call 9; ((with_reducible refine (HA3.out _).mono ?_); rintro e w5 ⟨rfl, hF5⟩))
      | (go_at_call 9; ((with_reducible refine (HA4.out _).mono ?_); rintro e w5 ⟨rfl, hF5⟩))
      | (go_at_call 9; ((with_reducible refine (HA5.out _).mono ?_); rintro e w5 ⟨rfl, hF5⟩)))
  all_goals
    have hS : (w5.cell? ⟨g, 0, none⟩ = some (.int .u8 a0) ∧ w5.cell? ⟨g, 1, none⟩ = some (.int .u8 a1) ∧ w5.cell? ⟨g, 2, none⟩ = some (.int .u8 a2) ∧ w5.cell? ⟨g, 3, none⟩ = some (.int .u8 a3)) ∧ Blk w5 g (adC (a0, a1, a2, a3)) 23 ∧ Fr [] W w5 := by assumption
    have hF6 := hF.trans hS.2.2
    clear hG hS HA1 HR1 HA2 HA3 HA4 HA5 T1 T2
    go_wp2_with fail
    go_ret
    exact ⟨rfl, hF6.below (Nat.le_refl _) (by simp)⟩
end Go.Proofs.Ytnenmgankgadcaa
