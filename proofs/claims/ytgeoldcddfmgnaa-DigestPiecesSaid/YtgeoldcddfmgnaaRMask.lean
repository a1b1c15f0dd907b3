/- The document's mask, walked (printed by tools/gen_rmask.py). -/
import Derived.Test.YtgeoldcddfmgnaaMaskW
import Derived.Deep.RegionLaw
namespace Go.Proofs.Ytgeoldcddfmgnaa
open Go.RowKit
set_option linter.unusedVariables false

def lastM (inn : Bool) (s v k0 : List UInt8) : Nat → List UInt8
  | 0 => []
  | k + 1 => if inn then pc v k else xorL (pc v k) (md5 (keyM inn s v k0 k))
theorem lastM_length (inn : Bool) (s v k0 : List UInt8) (k : Nat) : (lastM inn s v k0 k).length ≤ 16 := by
  cases k with
  | zero => simp [lastM]
  | succ k =>
    have h1 := pc_le v k
    have h2 := xorL_length (pc v k) (md5 (keyM inn s v k0 k)) (by rw [md5_length]; exact h1)
    cases inn <;> simp [lastM] <;> omega
theorem maskK_be (kind : Int) (s vec : List UInt8) : be 2 kind ++ (s ++ vec) = maskK kind s vec := by
  unfold maskK; simp [be, bytesOf]
theorem xorL_snoc (p d : List UInt8) (i : Nat) (hi : i < p.length) (hd : i < d.length) : xorL (p.take (i + 1)) d = xorL (p.take i) d ++ [p[i] ^^^ d[i]] := by
  rw [List.take_succ_eq_append_getElem hi]
  unfold xorL
  have hd : d = d.take i ++ d[i] :: d.drop (i + 1) := by rw [← List.drop_eq_getElem_cons hd, List.take_append_drop]
  conv => lhs; rw [hd]
  rw [List.zipWith_append (by rw [List.length_take, List.length_take]; omega)]
  have h2 : List.zipWith (fun a b => a ^^^ b) (p.take i) d = List.zipWith (fun a b => a ^^^ b) (p.take i) (d.take i) := by
    conv => lhs; rw [hd]
    conv => lhs; rw [← List.append_nil (p.take i)]
    rw [List.zipWith_append (by rw [List.length_take, List.length_take]; omega)]
    simp
  rw [h2]
  simp [List.zipWith]
theorem ints8_snoc (l : List UInt8) (x : UInt8) : (ints8 (l ++ [x])).map (Value.int .u8) = (ints8 l).map (Value.int .u8) ++ [.int .u8 (x.toNat : Int)] := by simp [ints8]
def ints (l : List UInt8) : List Value := l.map fun b : UInt8 => Value.int .u8 (b.toNat : Int)

set_option maxRecDepth 100000 in
set_option maxHeartbeats 4000000 in
theorem rmask_out (kind : Int) (s vec v : List UInt8) (w : World) (k0 : -9223372036854775808 ≤ kind) (k1 : kind ≤ 9223372036854775807) (hs : s.length ≤ 3000) (hvec : vec.length ≤ 3000) (hv : v.length ≤ 3000) :
    Calls Try.prog 45 #[.int .i64 kind, .string (B s), .string (B vec), .string (B v), .bool false] w fun e w' => e = .returned (.string (B (maskL false s v (maskK kind s vec)))) ∧ Fr [] w w' := by
  obtain ⟨i0, hi, hz0, hz1, hz2⟩ := info_parts infoU8
  have hKl := maskK_length kind s vec
  have hKe := maskK_be kind s vec
  obtain ⟨K, hK⟩ : ∃ K, maskK kind s vec = K := ⟨_, rfl⟩
  rw [hK] at hKl hKe
  have HK := Lib.hid hK
  have HKe := Lib.hid hKe
  have hKb : K.length ≤ 7000 := by omega
  clear hK hKl hKe
  rw [HK.out]
  go_enter Try.func45, Try.ntmps45
  go_wp2
  go_loopw [11, 12, 13] (fun ov lv av wr => ∃ k a : Nat, Hid (a = 16 * k) ∧ a < v.length + 16 ∧ av = .int .i64 a ∧ lv = .string (B (lastM false s v K k)) ∧ ov = .string (B (outM false s v K k)) ∧ Fr [] w wr) (fun _ _ av _ => v.length - (intOf av).toNat)
  case atStart => exact ⟨0, 0, Lib.hid rfl, by omega, rfl, rfl, rfl, Fr.refl _ _⟩
  case round =>
    obtain ⟨k, a, hak, hk, rfl, rfl, rfl, hF⟩ := hrel
    have hol := outM_length false s v K k
    have hll := lastM_length false s v K k
    by_cases hlt : a < v.length
    · have hpc : pc v k = (v.drop a).take 16 := by unfold pc; rw [hak.out]
      have hkn : lastM false s v K (k + 1) = xorL (pc v k) (md5 (keyM false s v K k)) := rfl
      have hon : outM false s v K (k + 1) = outM false s v K k ++ xorL (pc v k) (md5 (keyM false s v K k)) := rfl
      have d16 := md5_length (keyM false s v K k)
      have hky : keyM false s v K k = if k = 0 then K else s ++ lastM false s v K k := by cases k <;> rfl
      have hRl : (v.drop a).length = v.length - a := List.length_drop
      obtain ⟨R, hR⟩ : ∃ R, v.drop a = R := ⟨_, rfl⟩
      obtain ⟨D, hD⟩ : ∃ D, md5 (keyM false s v K k) = D := ⟨_, rfl⟩
      obtain ⟨Y, hY⟩ : ∃ Y, keyM false s v K k = Y := ⟨_, rfl⟩
      obtain ⟨O, hO⟩ : ∃ O, outM false s v K k = O := ⟨_, rfl⟩
      obtain ⟨L, hL⟩ : ∃ L, lastM false s v K k = L := ⟨_, rfl⟩
      obtain ⟨p, hp⟩ : ∃ p, R.take 16 = p := ⟨_, rfl⟩
      have hta : List.take (v.length - a) (List.drop a v) = R := by rw [hR, List.take_of_length_le (by rw [← hR, hRl]; exact Nat.le_refl _)]
      rw [hR] at hRl hpc
      rw [hp] at hpc
      rw [hpc, hD] at hkn
      rw [hpc, hD] at hon
      rw [hD] at d16
      rw [hO] at hol hon
      rw [hY] at hD hky
      rw [hL] at hll hky
      rw [hL, hO]
      have hpl : p.length = min 16 R.length := by rw [← hp, List.length_take]
      have hOb : O.length ≤ 3000 := by omega
      have hLb : L.length ≤ 16 := hll
      have hR0 : 0 < R.length := by omega
      have hRb : R.length ≤ 3000 := by omega
      have hpp : p = R.take 16 := hp.symm
      have Hta := Lib.hid hta
      have Hpp := Lib.hid hpp
      have Hpl := Lib.hid hpl
      have HD := Lib.hid hD
      have Hkn := Lib.hid hkn
      have Hon := Lib.hid hon
      have HRl := Lib.hid hRl
      have Hky := Lib.hid hky
      have H16 := Lib.hid d16
      clear hol hll hR hD hY hO hL hp hpp hpl hpc hkn hon hRl d16 hky hta
      have q1 : (a : Int) < v.length := by omega
      by_cases h16 : 16 < R.length
      · have h16' : 16 < v.length - a := by have := HRl.out; omega
        have h17' : (16 : Int) < (v.length : Int) - a := by omega
        by_cases hk0 : k = 0
        · have hz : ((a : Int) == 0) = true := by have := hak.out; rw [beq_iff_eq]; omega
          have hYK : Y = K := by have := Hky.out; rw [if_pos hk0] at this; exact this
          have HYK := Lib.hid hYK
          clear hYK hk0
          go_wp2_with fail
          refine (rmd5_any (s ++ L) _ (by rw [List.length_append]; omega)).mono ?_
          rintro e w1 ⟨rfl, hF1⟩
          rw [Hta.out, ← Hpp.out]
          have hF2 := hF.trans hF1
          have hl1 := hF2.size
          have z0 : (arr8 (md5 (s ++ L))).size = 16 := by rw [arr8_size, md5_length]
          have z1 : (arr8 (md5 (s ++ L))).all (·.oneCell') = true := arr8_one _
          obtain ⟨Z, hZ⟩ : ∃ Z, arr8 (md5 (s ++ L)) = Z := ⟨_, rfl⟩
          rw [hZ] at z0 z1 ⊢
          have Hz0 := Lib.hid z0
          have Hz1 := Lib.hid z1
          clear hF hF1 hZ z0 z1
          go_wp2_with (refine wpList_store_blk rfl 23 (.tmp 15) (.tmp 35) rfl w1.heap.size 23 z16 Z ?k0 rfl rfl ?k1 ?k2 ?k3 ?_)
          case k0 => exact Blk.new _ _ _
          case k1 => rw [Hz0.out]; rfl
          case k2 => rw [Hz0.out]; exact info16b
          case k3 => exact Hz1.out
          intro w2 hw2 hBy
          have hF3 : Fr [] w w2 := by rw [hw2.out]; exact (hF2.alloc _).setCells _ _ _ (Or.inl hl1)
          clear hw2 hF2
          go_wp2_with fail
          refine (two_any kind _ ⟨k0, k1⟩).mono ?_
          rintro e w3 ⟨rfl, hF4⟩
          have hbe := be_length 2 kind
          have hb1 : ¬ 9223372036854775807 < 2 + s.length := by omega
          have hb2 : ¬ 9223372036854775807 < 2 + s.length + vec.length := by omega
          have hb3 : ¬ 9223372036854775807 < 2 + (s.length + vec.length) := by omega
          have hBy4 := hF4.blk hBy (by simp)
          have hF5 := hF3.trans hF4
          clear hF3 hF4 hBy
          go_wp2_with fail
          refine (rmd5_any _ _ (by first | (rw [HKe.out]; omega) | (simp only [List.length_append]; omega))).mono ?_
          rw [HKe.out]
          rintro e w4 ⟨rfl, hF6⟩
          have hmD : md5 K = D := by rw [← HD.out, HYK.out]
          rw [hmD]
          have hBy5 := hF6.blk hBy4 (by simp)
          have hF7 := hF5.trans hF6
          have ws : (arr8 D).size = 16 := by rw [arr8_size]; exact H16.out
          have wo : (arr8 D).all (·.oneCell') = true := arr8_one _
          obtain ⟨W, hW⟩ : ∃ W, arr8 D = W := ⟨_, rfl⟩
          rw [hW] at ws wo ⊢
          have HW := Lib.hid hW
          have Hws := Lib.hid ws
          have Hwo := Lib.hid wo
          clear hmD hBy4 hF5 hF6 hW ws wo hbe
          go_wp2_with (refine wpList_store_blk rfl 23 (.tmp 15) (.tmp 44) rfl w1.heap.size 23 Z W hBy5 rfl rfl ?k4 ?k5 ?k6 ?_)
          case k4 => rw [Hws.out, Hz0.out]
          case k5 => rw [Hws.out]; exact info16b
          case k6 => exact Hwo.out
          intro w5 hw5 hBw
          have hF8 : Fr [] w w5 := by rw [hw5.out]; exact hF7.setCells _ _ _ (Or.inl hl1)
          clear hw5 hBy5 hF7
          have hyl := hBw.lt
          obtain ⟨yb, hyb⟩ : ∃ b, w1.heap.size = b := ⟨_, rfl⟩
          rw [hyb] at hBw hyl hl1 ⊢
          obtain ⟨bs, hbs⟩ : ∃ b, w5.heap.size = b := ⟨_, rfl⟩
          have hbs5 : bs ≤ w5.heap.size := by omega
          have hl5 := hF8.size
          rw [hbs] at hyl hl5
          have hp16 : p.length ≤ 16 := by have := Hpl.out; omega
          have hdl : p.length ≤ D.length := by rw [H16.out]; exact hp16
          have hxl := xorL_length p D hdl
          have Hdl := Lib.hid hdl
          clear hyb hbs hdl
          go_wp2
          go_loopw [16, 17] (fun bv cv wq => ∃ i : Nat, i ≤ p.length ∧ cv = .int .i64 i ∧ wq.ownsRow bs 5 1 bv i ((ints8 (xorL (p.take i) D)).map (Value.int .u8)) ∧ Blk wq yb W 23 ∧ bs ≤ wq.heap.size ∧ Fr [] w wq) (fun _ cv _ => p.length - (intOf cv).toNat)
          case atStart => exact ⟨0, by omega, rfl, by have := World.ownsRow_nil w5 bs 5 1; simpa [xorL, ints8] using this, hBw, hbs5, hF8⟩
          case round =>
            clear hBw hF8 hbs5
            obtain ⟨i, hij, rfl, hown, hYq, hbq, hFq⟩ := hrel
            by_cases hip : i < p.length
            · have hdi : i < D.length := by have := Hdl.out; omega
              have hy1 : wr.cell? ⟨yb, i, none⟩ = some (.int .u8 (D[i].toNat : Int)) := hYq.c i _ (by rw [← HW.out]; unfold arr8; simp [hdi])
              have hyz := hYq.lt
              obtain ⟨b, hb⟩ : ∃ b, D[i] = b := ⟨_, rfl⟩
              rw [hb] at hy1
              have Hb := Lib.hid hb
              have i16 : (i : Int) < 16 := by omega
              have i17 : i < 16 := by omega
              clear hb
              go_wp2
              go_region_law (first | (refine step_append_own rfl (.tmp 51) (.tmp 59) 46 rfl bs 5 i0 (.int .u8 0) 1 1 Try.underlying46 hi hz0 hz1 hz2 rfl (by decide) _ i _ (by simp [Act.eval]) (World.ownsRow.alloc (own_drew hown) _) ⟨wr.heap.size, 0, none⟩ 1 1 [_] (by simp [Act.eval]) rfl (new_cells _ _ _) (by simp [Value.oneCell']) (by unfold maxLen; omega) (by omega) (by simp; omega) ?_; intro v' w' hown' hgr'))
              all_goals
                go_wp2
                go_roundw
                case rel =>
                  refine ⟨i + 1, by omega, by go_num, ?_, ((hYq.drew).alloc _).grown hgr' (fun g hg => by have := own_new hown g hg; omega), by have := hgr'.size; simp at this; omega, ((hFq.drew).alloc _).grown hgr' (fun g hg => by have := own_new hown g hg; omega)⟩
                  rw [xorL_snoc p D i hip (by have := Hdl.out; omega), Hb.out, ints8_snoc, ← u8x]
                  exact hown'
                case measure => (simp [intOf]) <;> omega
            · have hip2 : i = p.length := by omega
              rw [hip2, List.take_length] at hown
              obtain ⟨X, hX⟩ : ∃ X, xorL p D = X := ⟨_, rfl⟩
              rw [hX] at hown hxl
              have hcv := run_str_any (P := Try.prog) Try.underlying46 Try.underlying5 Try.underlying9 (ints8 X) _ hown
              rw [bytes_ints8] at hcv
              have HX := Lib.hid hX
              have hx16 : X.length ≤ 16 := by omega
              have Hown := Lib.hid hown
              clear hX hxl hip2 hown hYq
              go_wp2
              go_roundw
              case rel => exact ⟨k + 1, a + 16, Lib.hid (by have := hak.out; omega), by omega, by go_num, by rw [Hkn.out, HX.out], by rw [Hon.out, HX.out], hFq⟩
              case measure => (simp [intOf]) <;> omega
        · have hz : ((a : Int) == 0) = false := by have := hak.out; rw [beq_eq_false_iff_ne]; omega
          have hYK : Y = s ++ L := by have := Hky.out; rw [if_neg hk0] at this; exact this
          have hmD : md5 (s ++ L) = D := by rw [← HD.out, hYK]
          have HmD := Lib.hid hmD
          clear hYK hk0 hmD
          go_wp2_with fail
          refine (rmd5_any (s ++ L) _ (by rw [List.length_append]; omega)).mono ?_
          rintro e w1 ⟨rfl, hF1⟩
          rw [Hta.out, ← Hpp.out, HmD.out]
          have hF2 := hF.trans hF1
          have hl1 := hF2.size
          have ws : (arr8 D).size = 16 := by rw [arr8_size]; exact H16.out
          have wo : (arr8 D).all (·.oneCell') = true := arr8_one _
          obtain ⟨W, hW⟩ : ∃ W, arr8 D = W := ⟨_, rfl⟩
          rw [hW] at ws wo ⊢
          have HW := Lib.hid hW
          have Hws := Lib.hid ws
          have Hwo := Lib.hid wo
          clear hF hF1 hW ws wo
          go_wp2_with (refine wpList_store_blk rfl 23 (.tmp 15) (.tmp 35) rfl w1.heap.size 23 z16 W ?k7 rfl rfl ?k8 ?k9 ?k10 ?_)
          case k7 => exact Blk.new _ _ _
          case k8 => rw [Hws.out]; rfl
          case k9 => rw [Hws.out]; exact info16b
          case k10 => exact Hwo.out
          intro w5 hw5 hBw
          have hF8 : Fr [] w w5 := by rw [hw5.out]; exact (hF2.alloc _).setCells _ _ _ (Or.inl hl1)
          clear hw5 hF2
          have hyl := hBw.lt
          obtain ⟨yb, hyb⟩ : ∃ b, w1.heap.size = b := ⟨_, rfl⟩
          rw [hyb] at hBw hyl hl1 ⊢
          obtain ⟨bs, hbs⟩ : ∃ b, w5.heap.size = b := ⟨_, rfl⟩
          have hbs5 : bs ≤ w5.heap.size := by omega
          have hl5 := hF8.size
          rw [hbs] at hyl hl5
          have hp16 : p.length ≤ 16 := by have := Hpl.out; omega
          have hdl : p.length ≤ D.length := by rw [H16.out]; exact hp16
          have hxl := xorL_length p D hdl
          have Hdl := Lib.hid hdl
          clear hyb hbs hdl
          go_wp2
          go_loopw [16, 17] (fun bv cv wq => ∃ i : Nat, i ≤ p.length ∧ cv = .int .i64 i ∧ wq.ownsRow bs 5 1 bv i ((ints8 (xorL (p.take i) D)).map (Value.int .u8)) ∧ Blk wq yb W 23 ∧ bs ≤ wq.heap.size ∧ Fr [] w wq) (fun _ cv _ => p.length - (intOf cv).toNat)
          case atStart => exact ⟨0, by omega, rfl, by have := World.ownsRow_nil w5 bs 5 1; simpa [xorL, ints8] using this, hBw, hbs5, hF8⟩
          case round =>
            clear hBw hF8 hbs5
            obtain ⟨i, hij, rfl, hown, hYq, hbq, hFq⟩ := hrel
            by_cases hip : i < p.length
            · have hdi : i < D.length := by have := Hdl.out; omega
              have hy1 : wr.cell? ⟨yb, i, none⟩ = some (.int .u8 (D[i].toNat : Int)) := hYq.c i _ (by rw [← HW.out]; unfold arr8; simp [hdi])
              have hyz := hYq.lt
              obtain ⟨b, hb⟩ : ∃ b, D[i] = b := ⟨_, rfl⟩
              rw [hb] at hy1
              have Hb := Lib.hid hb
              have i16 : (i : Int) < 16 := by omega
              have i17 : i < 16 := by omega
              clear hb
              go_wp2
              go_region_law (first | (refine step_append_own rfl (.tmp 51) (.tmp 59) 46 rfl bs 5 i0 (.int .u8 0) 1 1 Try.underlying46 hi hz0 hz1 hz2 rfl (by decide) _ i _ (by simp [Act.eval]) (World.ownsRow.alloc (own_drew hown) _) ⟨wr.heap.size, 0, none⟩ 1 1 [_] (by simp [Act.eval]) rfl (new_cells _ _ _) (by simp [Value.oneCell']) (by unfold maxLen; omega) (by omega) (by simp; omega) ?_; intro v' w' hown' hgr'))
              all_goals
                go_wp2
                go_roundw
                case rel =>
                  refine ⟨i + 1, by omega, by go_num, ?_, ((hYq.drew).alloc _).grown hgr' (fun g hg => by have := own_new hown g hg; omega), by have := hgr'.size; simp at this; omega, ((hFq.drew).alloc _).grown hgr' (fun g hg => by have := own_new hown g hg; omega)⟩
                  rw [xorL_snoc p D i hip (by have := Hdl.out; omega), Hb.out, ints8_snoc, ← u8x]
                  exact hown'
                case measure => (simp [intOf]) <;> omega
            · have hip2 : i = p.length := by omega
              rw [hip2, List.take_length] at hown
              obtain ⟨X, hX⟩ : ∃ X, xorL p D = X := ⟨_, rfl⟩
              rw [hX] at hown hxl
              have hcv := run_str_any (P := Try.prog) Try.underlying46 Try.underlying5 Try.underlying9 (ints8 X) _ hown
              rw [bytes_ints8] at hcv
              have HX := Lib.hid hX
              have hx16 : X.length ≤ 16 := by omega
              have Hown := Lib.hid hown
              clear hX hxl hip2 hown hYq
              go_wp2
              go_roundw
              case rel => exact ⟨k + 1, a + 16, Lib.hid (by have := hak.out; omega), by omega, by go_num, by rw [Hkn.out, HX.out], by rw [Hon.out, HX.out], hFq⟩
              case measure => (simp [intOf]) <;> omega
      · have h16' : ¬ 16 < v.length - a := by have := HRl.out; omega
        have h17' : ¬ (16 : Int) < (v.length : Int) - a := by omega
        have hpR : R = p := by have := Hpp.out; rw [this, List.take_of_length_le (by omega)]
        subst hpR
        by_cases hk0 : k = 0
        · have hz : ((a : Int) == 0) = true := by have := hak.out; rw [beq_iff_eq]; omega
          have hYK : Y = K := by have := Hky.out; rw [if_pos hk0] at this; exact this
          have HYK := Lib.hid hYK
          clear hYK hk0
          go_wp2_with fail
          refine (rmd5_any (s ++ L) _ (by rw [List.length_append]; omega)).mono ?_
          rintro e w1 ⟨rfl, hF1⟩
          rw [Hta.out]
          have hF2 := hF.trans hF1
          have hl1 := hF2.size
          have z0 : (arr8 (md5 (s ++ L))).size = 16 := by rw [arr8_size, md5_length]
          have z1 : (arr8 (md5 (s ++ L))).all (·.oneCell') = true := arr8_one _
          obtain ⟨Z, hZ⟩ : ∃ Z, arr8 (md5 (s ++ L)) = Z := ⟨_, rfl⟩
          rw [hZ] at z0 z1 ⊢
          have Hz0 := Lib.hid z0
          have Hz1 := Lib.hid z1
          clear hF hF1 hZ z0 z1
          go_wp2_with (refine wpList_store_blk rfl 23 (.tmp 15) (.tmp 35) rfl w1.heap.size 23 z16 Z ?k0 rfl rfl ?k1 ?k2 ?k3 ?_)
          case k0 => exact Blk.new _ _ _
          case k1 => rw [Hz0.out]; rfl
          case k2 => rw [Hz0.out]; exact info16b
          case k3 => exact Hz1.out
          intro w2 hw2 hBy
          have hF3 : Fr [] w w2 := by rw [hw2.out]; exact (hF2.alloc _).setCells _ _ _ (Or.inl hl1)
          clear hw2 hF2
          go_wp2_with fail
          refine (two_any kind _ ⟨k0, k1⟩).mono ?_
          rintro e w3 ⟨rfl, hF4⟩
          have hbe := be_length 2 kind
          have hb1 : ¬ 9223372036854775807 < 2 + s.length := by omega
          have hb2 : ¬ 9223372036854775807 < 2 + s.length + vec.length := by omega
          have hb3 : ¬ 9223372036854775807 < 2 + (s.length + vec.length) := by omega
          have hBy4 := hF4.blk hBy (by simp)
          have hF5 := hF3.trans hF4
          clear hF3 hF4 hBy
          go_wp2_with fail
          refine (rmd5_any _ _ (by first | (rw [HKe.out]; omega) | (simp only [List.length_append]; omega))).mono ?_
          rw [HKe.out]
          rintro e w4 ⟨rfl, hF6⟩
          have hmD : md5 K = D := by rw [← HD.out, HYK.out]
          rw [hmD]
          have hBy5 := hF6.blk hBy4 (by simp)
          have hF7 := hF5.trans hF6
          have ws : (arr8 D).size = 16 := by rw [arr8_size]; exact H16.out
          have wo : (arr8 D).all (·.oneCell') = true := arr8_one _
          obtain ⟨W, hW⟩ : ∃ W, arr8 D = W := ⟨_, rfl⟩
          rw [hW] at ws wo ⊢
          have HW := Lib.hid hW
          have Hws := Lib.hid ws
          have Hwo := Lib.hid wo
          clear hmD hBy4 hF5 hF6 hW ws wo hbe
          go_wp2_with (refine wpList_store_blk rfl 23 (.tmp 15) (.tmp 44) rfl w1.heap.size 23 Z W hBy5 rfl rfl ?k4 ?k5 ?k6 ?_)
          case k4 => rw [Hws.out, Hz0.out]
          case k5 => rw [Hws.out]; exact info16b
          case k6 => exact Hwo.out
          intro w5 hw5 hBw
          have hF8 : Fr [] w w5 := by rw [hw5.out]; exact hF7.setCells _ _ _ (Or.inl hl1)
          clear hw5 hBy5 hF7
          have hyl := hBw.lt
          obtain ⟨yb, hyb⟩ : ∃ b, w1.heap.size = b := ⟨_, rfl⟩
          rw [hyb] at hBw hyl hl1 ⊢
          obtain ⟨bs, hbs⟩ : ∃ b, w5.heap.size = b := ⟨_, rfl⟩
          have hbs5 : bs ≤ w5.heap.size := by omega
          have hl5 := hF8.size
          rw [hbs] at hyl hl5
          have hp16 : R.length ≤ 16 := by have := Hpl.out; omega
          have hdl : R.length ≤ D.length := by rw [H16.out]; exact hp16
          have hxl := xorL_length R D hdl
          have Hdl := Lib.hid hdl
          clear hyb hbs hdl
          go_wp2
          go_loopw [16, 17] (fun bv cv wq => ∃ i : Nat, i ≤ R.length ∧ cv = .int .i64 i ∧ wq.ownsRow bs 5 1 bv i ((ints8 (xorL (R.take i) D)).map (Value.int .u8)) ∧ Blk wq yb W 23 ∧ bs ≤ wq.heap.size ∧ Fr [] w wq) (fun _ cv _ => R.length - (intOf cv).toNat)
          case atStart => exact ⟨0, by omega, rfl, by have := World.ownsRow_nil w5 bs 5 1; simpa [xorL, ints8] using this, hBw, hbs5, hF8⟩
          case round =>
            clear hBw hF8 hbs5
            obtain ⟨i, hij, rfl, hown, hYq, hbq, hFq⟩ := hrel
            by_cases hip : i < R.length
            · have hdi : i < D.length := by have := Hdl.out; omega
              have hy1 : wr.cell? ⟨yb, i, none⟩ = some (.int .u8 (D[i].toNat : Int)) := hYq.c i _ (by rw [← HW.out]; unfold arr8; simp [hdi])
              have hyz := hYq.lt
              obtain ⟨b, hb⟩ : ∃ b, D[i] = b := ⟨_, rfl⟩
              rw [hb] at hy1
              have Hb := Lib.hid hb
              have i16 : (i : Int) < 16 := by omega
              have i17 : i < 16 := by omega
              clear hb
              go_wp2
              go_region_law (first | (refine step_append_own rfl (.tmp 51) (.tmp 59) 46 rfl bs 5 i0 (.int .u8 0) 1 1 Try.underlying46 hi hz0 hz1 hz2 rfl (by decide) _ i _ (by simp [Act.eval]) (World.ownsRow.alloc (own_drew hown) _) ⟨wr.heap.size, 0, none⟩ 1 1 [_] (by simp [Act.eval]) rfl (new_cells _ _ _) (by simp [Value.oneCell']) (by unfold maxLen; omega) (by omega) (by simp; omega) ?_; intro v' w' hown' hgr'))
              all_goals
                go_wp2
                go_roundw
                case rel =>
                  refine ⟨i + 1, by omega, by go_num, ?_, ((hYq.drew).alloc _).grown hgr' (fun g hg => by have := own_new hown g hg; omega), by have := hgr'.size; simp at this; omega, ((hFq.drew).alloc _).grown hgr' (fun g hg => by have := own_new hown g hg; omega)⟩
                  rw [xorL_snoc R D i hip (by have := Hdl.out; omega), Hb.out, ints8_snoc, ← u8x]
                  exact hown'
                case measure => (simp [intOf]) <;> omega
            · have hip2 : i = R.length := by omega
              rw [hip2, List.take_length] at hown
              obtain ⟨X, hX⟩ : ∃ X, xorL R D = X := ⟨_, rfl⟩
              rw [hX] at hown hxl
              have hcv := run_str_any (P := Try.prog) Try.underlying46 Try.underlying5 Try.underlying9 (ints8 X) _ hown
              rw [bytes_ints8] at hcv
              have HX := Lib.hid hX
              have hx16 : X.length ≤ 16 := by omega
              have Hown := Lib.hid hown
              clear hX hxl hip2 hown hYq
              go_wp2
              go_roundw
              case rel => exact ⟨k + 1, a + 16, Lib.hid (by have := hak.out; omega), by omega, by go_num, by rw [Hkn.out, HX.out], by rw [Hon.out, HX.out], hFq⟩
              case measure => (simp [intOf]) <;> omega
        · have hz : ((a : Int) == 0) = false := by have := hak.out; rw [beq_eq_false_iff_ne]; omega
          have hYK : Y = s ++ L := by have := Hky.out; rw [if_neg hk0] at this; exact this
          have hmD : md5 (s ++ L) = D := by rw [← HD.out, hYK]
          have HmD := Lib.hid hmD
          clear hYK hk0 hmD
          go_wp2_with fail
          refine (rmd5_any (s ++ L) _ (by rw [List.length_append]; omega)).mono ?_
          rintro e w1 ⟨rfl, hF1⟩
          rw [Hta.out, HmD.out]
          have hF2 := hF.trans hF1
          have hl1 := hF2.size
          have ws : (arr8 D).size = 16 := by rw [arr8_size]; exact H16.out
          have wo : (arr8 D).all (·.oneCell') = true := arr8_one _
          obtain ⟨W, hW⟩ : ∃ W, arr8 D = W := ⟨_, rfl⟩
          rw [hW] at ws wo ⊢
          have HW := Lib.hid hW
          have Hws := Lib.hid ws
          have Hwo := Lib.hid wo
          clear hF hF1 hW ws wo
          go_wp2_with (refine wpList_store_blk rfl 23 (.tmp 15) (.tmp 35) rfl w1.heap.size 23 z16 W ?k7 rfl rfl ?k8 ?k9 ?k10 ?_)
          case k7 => exact Blk.new _ _ _
          case k8 => rw [Hws.out]; rfl
          case k9 => rw [Hws.out]; exact info16b
          case k10 => exact Hwo.out
          intro w5 hw5 hBw
          have hF8 : Fr [] w w5 := by rw [hw5.out]; exact (hF2.alloc _).setCells _ _ _ (Or.inl hl1)
          clear hw5 hF2
          have hyl := hBw.lt
          obtain ⟨yb, hyb⟩ : ∃ b, w1.heap.size = b := ⟨_, rfl⟩
          rw [hyb] at hBw hyl hl1 ⊢
          obtain ⟨bs, hbs⟩ : ∃ b, w5.heap.size = b := ⟨_, rfl⟩
          have hbs5 : bs ≤ w5.heap.size := by omega
          have hl5 := hF8.size
          rw [hbs] at hyl hl5
          have hp16 : R.length ≤ 16 := by have := Hpl.out; omega
          have hdl : R.length ≤ D.length := by rw [H16.out]; exact hp16
          have hxl := xorL_length R D hdl
          have Hdl := Lib.hid hdl
          clear hyb hbs hdl
          go_wp2
          go_loopw [16, 17] (fun bv cv wq => ∃ i : Nat, i ≤ R.length ∧ cv = .int .i64 i ∧ wq.ownsRow bs 5 1 bv i ((ints8 (xorL (R.take i) D)).map (Value.int .u8)) ∧ Blk wq yb W 23 ∧ bs ≤ wq.heap.size ∧ Fr [] w wq) (fun _ cv _ => R.length - (intOf cv).toNat)
          case atStart => exact ⟨0, by omega, rfl, by have := World.ownsRow_nil w5 bs 5 1; simpa [xorL, ints8] using this, hBw, hbs5, hF8⟩
          case round =>
            clear hBw hF8 hbs5
            obtain ⟨i, hij, rfl, hown, hYq, hbq, hFq⟩ := hrel
            by_cases hip : i < R.length
            · have hdi : i < D.length := by have := Hdl.out; omega
              have hy1 : wr.cell? ⟨yb, i, none⟩ = some (.int .u8 (D[i].toNat : Int)) := hYq.c i _ (by rw [← HW.out]; unfold arr8; simp [hdi])
              have hyz := hYq.lt
              obtain ⟨b, hb⟩ : ∃ b, D[i] = b := ⟨_, rfl⟩
              rw [hb] at hy1
              have Hb := Lib.hid hb
              have i16 : (i : Int) < 16 := by omega
              have i17 : i < 16 := by omega
              clear hb
              go_wp2
              go_region_law (first | (refine step_append_own rfl (.tmp 51) (.tmp 59) 46 rfl bs 5 i0 (.int .u8 0) 1 1 Try.underlying46 hi hz0 hz1 hz2 rfl (by decide) _ i _ (by simp [Act.eval]) (World.ownsRow.alloc (own_drew hown) _) ⟨wr.heap.size, 0, none⟩ 1 1 [_] (by simp [Act.eval]) rfl (new_cells _ _ _) (by simp [Value.oneCell']) (by unfold maxLen; omega) (by omega) (by simp; omega) ?_; intro v' w' hown' hgr'))
              all_goals
                go_wp2
                go_roundw
                case rel =>
                  refine ⟨i + 1, by omega, by go_num, ?_, ((hYq.drew).alloc _).grown hgr' (fun g hg => by have := own_new hown g hg; omega), by have := hgr'.size; simp at this; omega, ((hFq.drew).alloc _).grown hgr' (fun g hg => by have := own_new hown g hg; omega)⟩
                  rw [xorL_snoc R D i hip (by have := Hdl.out; omega), Hb.out, ints8_snoc, ← u8x]
                  exact hown'
                case measure => (simp [intOf]) <;> omega
            · have hip2 : i = R.length := by omega
              rw [hip2, List.take_length] at hown
              obtain ⟨X, hX⟩ : ∃ X, xorL R D = X := ⟨_, rfl⟩
              rw [hX] at hown hxl
              have hcv := run_str_any (P := Try.prog) Try.underlying46 Try.underlying5 Try.underlying9 (ints8 X) _ hown
              rw [bytes_ints8] at hcv
              have HX := Lib.hid hX
              have hx16 : X.length ≤ 16 := by omega
              have Hown := Lib.hid hown
              clear hX hxl hip2 hown hYq
              go_wp2
              go_roundw
              case rel => exact ⟨k + 1, a + 16, Lib.hid (by have := hak.out; omega), by omega, by go_num, by rw [Hkn.out, HX.out], by rw [Hon.out, HX.out], hFq⟩
              case measure => (simp [intOf]) <;> omega
    · have hm := maskL_at false s v K k (by have := hak.out; omega)
      have Hm := Lib.hid hm
      have q1 : ¬ (a : Int) < v.length := by omega
      clear hm hol hll
      go_wp2
      go_ret
      exact ⟨by rw [Hm.out]; rfl, hF⟩
set_option maxRecDepth 100000 in
set_option maxHeartbeats 4000000 in
theorem rmask_in (kind : Int) (s vec v : List UInt8) (w : World) (k0 : -9223372036854775808 ≤ kind) (k1 : kind ≤ 9223372036854775807) (hs : s.length ≤ 3000) (hvec : vec.length ≤ 3000) (hv : v.length ≤ 3000) :
    Calls Try.prog 45 #[.int .i64 kind, .string (B s), .string (B vec), .string (B v), .bool true] w fun e w' => e = .returned (.string (B (maskL true s v (maskK kind s vec)))) ∧ Fr [] w w' := by
  obtain ⟨i0, hi, hz0, hz1, hz2⟩ := info_parts infoU8
  have hKl := maskK_length kind s vec
  have hKe := maskK_be kind s vec
  obtain ⟨K, hK⟩ : ∃ K, maskK kind s vec = K := ⟨_, rfl⟩
  rw [hK] at hKl hKe
  have HK := Lib.hid hK
  have HKe := Lib.hid hKe
  have hKb : K.length ≤ 7000 := by omega
  clear hK hKl hKe
  rw [HK.out]
  go_enter Try.func45, Try.ntmps45
  go_wp2
  go_loopw [11, 12, 13] (fun ov lv av wr => ∃ k a : Nat, Hid (a = 16 * k) ∧ a < v.length + 16 ∧ av = .int .i64 a ∧ lv = .string (B (lastM true s v K k)) ∧ ov = .string (B (outM true s v K k)) ∧ Fr [] w wr) (fun _ _ av _ => v.length - (intOf av).toNat)
  case atStart => exact ⟨0, 0, Lib.hid rfl, by omega, rfl, rfl, rfl, Fr.refl _ _⟩
  case round =>
    obtain ⟨k, a, hak, hk, rfl, rfl, rfl, hF⟩ := hrel
    have hol := outM_length true s v K k
    have hll := lastM_length true s v K k
    by_cases hlt : a < v.length
    · have hpc : pc v k = (v.drop a).take 16 := by unfold pc; rw [hak.out]
      have hkn : lastM true s v K (k + 1) = pc v k := rfl
      have hon : outM true s v K (k + 1) = outM true s v K k ++ xorL (pc v k) (md5 (keyM true s v K k)) := rfl
      have d16 := md5_length (keyM true s v K k)
      have hky : keyM true s v K k = if k = 0 then K else s ++ lastM true s v K k := by cases k <;> rfl
      have hRl : (v.drop a).length = v.length - a := List.length_drop
      obtain ⟨R, hR⟩ : ∃ R, v.drop a = R := ⟨_, rfl⟩
      obtain ⟨D, hD⟩ : ∃ D, md5 (keyM true s v K k) = D := ⟨_, rfl⟩
      obtain ⟨Y, hY⟩ : ∃ Y, keyM true s v K k = Y := ⟨_, rfl⟩
      obtain ⟨O, hO⟩ : ∃ O, outM true s v K k = O := ⟨_, rfl⟩
      obtain ⟨L, hL⟩ : ∃ L, lastM true s v K k = L := ⟨_, rfl⟩
      obtain ⟨p, hp⟩ : ∃ p, R.take 16 = p := ⟨_, rfl⟩
      have hta : List.take (v.length - a) (List.drop a v) = R := by rw [hR, List.take_of_length_le (by rw [← hR, hRl]; exact Nat.le_refl _)]
      rw [hR] at hRl hpc
      rw [hp] at hpc
      rw [hpc] at hkn
      rw [hpc, hD] at hon
      rw [hD] at d16
      rw [hO] at hol hon
      rw [hY] at hD hky
      rw [hL] at hll hky
      rw [hL, hO]
      have hpl : p.length = min 16 R.length := by rw [← hp, List.length_take]
      have hOb : O.length ≤ 3000 := by omega
      have hLb : L.length ≤ 16 := hll
      have hR0 : 0 < R.length := by omega
      have hRb : R.length ≤ 3000 := by omega
      have hpp : p = R.take 16 := hp.symm
      have Hta := Lib.hid hta
      have Hpp := Lib.hid hpp
      have Hpl := Lib.hid hpl
      have HD := Lib.hid hD
      have Hkn := Lib.hid hkn
      have Hon := Lib.hid hon
      have HRl := Lib.hid hRl
      have Hky := Lib.hid hky
      have H16 := Lib.hid d16
      clear hol hll hR hD hY hO hL hp hpp hpl hpc hkn hon hRl d16 hky hta
      have q1 : (a : Int) < v.length := by omega
      by_cases h16 : 16 < R.length
      · have h16' : 16 < v.length - a := by have := HRl.out; omega
        have h17' : (16 : Int) < (v.length : Int) - a := by omega
        by_cases hk0 : k = 0
        · have hz : ((a : Int) == 0) = true := by have := hak.out; rw [beq_iff_eq]; omega
          have hYK : Y = K := by have := Hky.out; rw [if_pos hk0] at this; exact this
          have HYK := Lib.hid hYK
          clear hYK hk0
          go_wp2_with fail
          refine (rmd5_any (s ++ L) _ (by rw [List.length_append]; omega)).mono ?_
          rintro e w1 ⟨rfl, hF1⟩
          rw [Hta.out, ← Hpp.out]
          have hF2 := hF.trans hF1
          have hl1 := hF2.size
          have z0 : (arr8 (md5 (s ++ L))).size = 16 := by rw [arr8_size, md5_length]
          have z1 : (arr8 (md5 (s ++ L))).all (·.oneCell') = true := arr8_one _
          obtain ⟨Z, hZ⟩ : ∃ Z, arr8 (md5 (s ++ L)) = Z := ⟨_, rfl⟩
          rw [hZ] at z0 z1 ⊢
          have Hz0 := Lib.hid z0
          have Hz1 := Lib.hid z1
          clear hF hF1 hZ z0 z1
          go_wp2_with (refine wpList_store_blk rfl 23 (.tmp 15) (.tmp 35) rfl w1.heap.size 23 z16 Z ?k0 rfl rfl ?k1 ?k2 ?k3 ?_)
          case k0 => exact Blk.new _ _ _
          case k1 => rw [Hz0.out]; rfl
          case k2 => rw [Hz0.out]; exact info16b
          case k3 => exact Hz1.out
          intro w2 hw2 hBy
          have hF3 : Fr [] w w2 := by rw [hw2.out]; exact (hF2.alloc _).setCells _ _ _ (Or.inl hl1)
          clear hw2 hF2
          go_wp2_with fail
          refine (two_any kind _ ⟨k0, k1⟩).mono ?_
          rintro e w3 ⟨rfl, hF4⟩
          have hbe := be_length 2 kind
          have hb1 : ¬ 9223372036854775807 < 2 + s.length := by omega
          have hb2 : ¬ 9223372036854775807 < 2 + s.length + vec.length := by omega
          have hb3 : ¬ 9223372036854775807 < 2 + (s.length + vec.length) := by omega
          have hBy4 := hF4.blk hBy (by simp)
          have hF5 := hF3.trans hF4
          clear hF3 hF4 hBy
          go_wp2_with fail
          refine (rmd5_any _ _ (by first | (rw [HKe.out]; omega) | (simp only [List.length_append]; omega))).mono ?_
          rw [HKe.out]
          rintro e w4 ⟨rfl, hF6⟩
          have hmD : md5 K = D := by rw [← HD.out, HYK.out]
          rw [hmD]
          have hBy5 := hF6.blk hBy4 (by simp)
          have hF7 := hF5.trans hF6
          have ws : (arr8 D).size = 16 := by rw [arr8_size]; exact H16.out
          have wo : (arr8 D).all (·.oneCell') = true := arr8_one _
          obtain ⟨W, hW⟩ : ∃ W, arr8 D = W := ⟨_, rfl⟩
          rw [hW] at ws wo ⊢
          have HW := Lib.hid hW
          have Hws := Lib.hid ws
          have Hwo := Lib.hid wo
          clear hmD hBy4 hF5 hF6 hW ws wo hbe
          go_wp2_with (refine wpList_store_blk rfl 23 (.tmp 15) (.tmp 44) rfl w1.heap.size 23 Z W hBy5 rfl rfl ?k4 ?k5 ?k6 ?_)
          case k4 => rw [Hws.out, Hz0.out]
          case k5 => rw [Hws.out]; exact info16b
          case k6 => exact Hwo.out
          intro w5 hw5 hBw
          have hF8 : Fr [] w w5 := by rw [hw5.out]; exact hF7.setCells _ _ _ (Or.inl hl1)
          clear hw5 hBy5 hF7
          have hyl := hBw.lt
          obtain ⟨yb, hyb⟩ : ∃ b, w1.heap.size = b := ⟨_, rfl⟩
          rw [hyb] at hBw hyl hl1 ⊢
          obtain ⟨bs, hbs⟩ : ∃ b, w5.heap.size = b := ⟨_, rfl⟩
          have hbs5 : bs ≤ w5.heap.size := by omega
          have hl5 := hF8.size
          rw [hbs] at hyl hl5
          have hp16 : p.length ≤ 16 := by have := Hpl.out; omega
          have hdl : p.length ≤ D.length := by rw [H16.out]; exact hp16
          have hxl := xorL_length p D hdl
          have Hdl := Lib.hid hdl
          clear hyb hbs hdl
          go_wp2
          go_loopw [16, 17] (fun bv cv wq => ∃ i : Nat, i ≤ p.length ∧ cv = .int .i64 i ∧ wq.ownsRow bs 5 1 bv i ((ints8 (xorL (p.take i) D)).map (Value.int .u8)) ∧ Blk wq yb W 23 ∧ bs ≤ wq.heap.size ∧ Fr [] w wq) (fun _ cv _ => p.length - (intOf cv).toNat)
          case atStart => exact ⟨0, by omega, rfl, by have := World.ownsRow_nil w5 bs 5 1; simpa [xorL, ints8] using this, hBw, hbs5, hF8⟩
          case round =>
            clear hBw hF8 hbs5
            obtain ⟨i, hij, rfl, hown, hYq, hbq, hFq⟩ := hrel
            by_cases hip : i < p.length
            · have hdi : i < D.length := by have := Hdl.out; omega
              have hy1 : wr.cell? ⟨yb, i, none⟩ = some (.int .u8 (D[i].toNat : Int)) := hYq.c i _ (by rw [← HW.out]; unfold arr8; simp [hdi])
              have hyz := hYq.lt
              obtain ⟨b, hb⟩ : ∃ b, D[i] = b := ⟨_, rfl⟩
              rw [hb] at hy1
              have Hb := Lib.hid hb
              have i16 : (i : Int) < 16 := by omega
              have i17 : i < 16 := by omega
              clear hb
              go_wp2
              go_region_law (first | (refine step_append_own rfl (.tmp 51) (.tmp 59) 46 rfl bs 5 i0 (.int .u8 0) 1 1 Try.underlying46 hi hz0 hz1 hz2 rfl (by decide) _ i _ (by simp [Act.eval]) (World.ownsRow.alloc (own_drew hown) _) ⟨wr.heap.size, 0, none⟩ 1 1 [_] (by simp [Act.eval]) rfl (new_cells _ _ _) (by simp [Value.oneCell']) (by unfold maxLen; omega) (by omega) (by simp; omega) ?_; intro v' w' hown' hgr'))
              all_goals
                go_wp2
                go_roundw
                case rel =>
                  refine ⟨i + 1, by omega, by go_num, ?_, ((hYq.drew).alloc _).grown hgr' (fun g hg => by have := own_new hown g hg; omega), by have := hgr'.size; simp at this; omega, ((hFq.drew).alloc _).grown hgr' (fun g hg => by have := own_new hown g hg; omega)⟩
                  rw [xorL_snoc p D i hip (by have := Hdl.out; omega), Hb.out, ints8_snoc, ← u8x]
                  exact hown'
                case measure => (simp [intOf]) <;> omega
            · have hip2 : i = p.length := by omega
              rw [hip2, List.take_length] at hown
              obtain ⟨X, hX⟩ : ∃ X, xorL p D = X := ⟨_, rfl⟩
              rw [hX] at hown hxl
              have hcv := run_str_any (P := Try.prog) Try.underlying46 Try.underlying5 Try.underlying9 (ints8 X) _ hown
              rw [bytes_ints8] at hcv
              have HX := Lib.hid hX
              have hx16 : X.length ≤ 16 := by omega
              have Hown := Lib.hid hown
              clear hX hxl hip2 hown hYq
              go_wp2
              go_roundw
              case rel => exact ⟨k + 1, a + 16, Lib.hid (by have := hak.out; omega), by omega, by go_num, by rw [Hkn.out], by rw [Hon.out, HX.out], hFq⟩
              case measure => (simp [intOf]) <;> omega
        · have hz : ((a : Int) == 0) = false := by have := hak.out; rw [beq_eq_false_iff_ne]; omega
          have hYK : Y = s ++ L := by have := Hky.out; rw [if_neg hk0] at this; exact this
          have hmD : md5 (s ++ L) = D := by rw [← HD.out, hYK]
          have HmD := Lib.hid hmD
          clear hYK hk0 hmD
          go_wp2_with fail
          refine (rmd5_any (s ++ L) _ (by rw [List.length_append]; omega)).mono ?_
          rintro e w1 ⟨rfl, hF1⟩
          rw [Hta.out, ← Hpp.out, HmD.out]
          have hF2 := hF.trans hF1
          have hl1 := hF2.size
          have ws : (arr8 D).size = 16 := by rw [arr8_size]; exact H16.out
          have wo : (arr8 D).all (·.oneCell') = true := arr8_one _
          obtain ⟨W, hW⟩ : ∃ W, arr8 D = W := ⟨_, rfl⟩
          rw [hW] at ws wo ⊢
          have HW := Lib.hid hW
          have Hws := Lib.hid ws
          have Hwo := Lib.hid wo
          clear hF hF1 hW ws wo
          go_wp2_with (refine wpList_store_blk rfl 23 (.tmp 15) (.tmp 35) rfl w1.heap.size 23 z16 W ?k7 rfl rfl ?k8 ?k9 ?k10 ?_)
          case k7 => exact Blk.new _ _ _
          case k8 => rw [Hws.out]; rfl
          case k9 => rw [Hws.out]; exact info16b
          case k10 => exact Hwo.out
          intro w5 hw5 hBw
          have hF8 : Fr [] w w5 := by rw [hw5.out]; exact (hF2.alloc _).setCells _ _ _ (Or.inl hl1)
          clear hw5 hF2
          have hyl := hBw.lt
          obtain ⟨yb, hyb⟩ : ∃ b, w1.heap.size = b := ⟨_, rfl⟩
          rw [hyb] at hBw hyl hl1 ⊢
          obtain ⟨bs, hbs⟩ : ∃ b, w5.heap.size = b := ⟨_, rfl⟩
          have hbs5 : bs ≤ w5.heap.size := by omega
          have hl5 := hF8.size
          rw [hbs] at hyl hl5
          have hp16 : p.length ≤ 16 := by have := Hpl.out; omega
          have hdl : p.length ≤ D.length := by rw [H16.out]; exact hp16
          have hxl := xorL_length p D hdl
          have Hdl := Lib.hid hdl
          clear hyb hbs hdl
          go_wp2
          go_loopw [16, 17] (fun bv cv wq => ∃ i : Nat, i ≤ p.length ∧ cv = .int .i64 i ∧ wq.ownsRow bs 5 1 bv i ((ints8 (xorL (p.take i) D)).map (Value.int .u8)) ∧ Blk wq yb W 23 ∧ bs ≤ wq.heap.size ∧ Fr [] w wq) (fun _ cv _ => p.length - (intOf cv).toNat)
          case atStart => exact ⟨0, by omega, rfl, by have := World.ownsRow_nil w5 bs 5 1; simpa [xorL, ints8] using this, hBw, hbs5, hF8⟩
          case round =>
            clear hBw hF8 hbs5
            obtain ⟨i, hij, rfl, hown, hYq, hbq, hFq⟩ := hrel
            by_cases hip : i < p.length
            · have hdi : i < D.length := by have := Hdl.out; omega
              have hy1 : wr.cell? ⟨yb, i, none⟩ = some (.int .u8 (D[i].toNat : Int)) := hYq.c i _ (by rw [← HW.out]; unfold arr8; simp [hdi])
              have hyz := hYq.lt
              obtain ⟨b, hb⟩ : ∃ b, D[i] = b := ⟨_, rfl⟩
              rw [hb] at hy1
              have Hb := Lib.hid hb
              have i16 : (i : Int) < 16 := by omega
              have i17 : i < 16 := by omega
              clear hb
              go_wp2
              go_region_law (first | (refine step_append_own rfl (.tmp 51) (.tmp 59) 46 rfl bs 5 i0 (.int .u8 0) 1 1 Try.underlying46 hi hz0 hz1 hz2 rfl (by decide) _ i _ (by simp [Act.eval]) (World.ownsRow.alloc (own_drew hown) _) ⟨wr.heap.size, 0, none⟩ 1 1 [_] (by simp [Act.eval]) rfl (new_cells _ _ _) (by simp [Value.oneCell']) (by unfold maxLen; omega) (by omega) (by simp; omega) ?_; intro v' w' hown' hgr'))
              all_goals
                go_wp2
                go_roundw
                case rel =>
                  refine ⟨i + 1, by omega, by go_num, ?_, ((hYq.drew).alloc _).grown hgr' (fun g hg => by have := own_new hown g hg; omega), by have := hgr'.size; simp at this; omega, ((hFq.drew).alloc _).grown hgr' (fun g hg => by have := own_new hown g hg; omega)⟩
                  rw [xorL_snoc p D i hip (by have := Hdl.out; omega), Hb.out, ints8_snoc, ← u8x]
                  exact hown'
                case measure => (simp [intOf]) <;> omega
            · have hip2 : i = p.length := by omega
              rw [hip2, List.take_length] at hown
              obtain ⟨X, hX⟩ : ∃ X, xorL p D = X := ⟨_, rfl⟩
              rw [hX] at hown hxl
              have hcv := run_str_any (P := Try.prog) Try.underlying46 Try.underlying5 Try.underlying9 (ints8 X) _ hown
              rw [bytes_ints8] at hcv
              have HX := Lib.hid hX
              have hx16 : X.length ≤ 16 := by omega
              have Hown := Lib.hid hown
              clear hX hxl hip2 hown hYq
              go_wp2
              go_roundw
              case rel => exact ⟨k + 1, a + 16, Lib.hid (by have := hak.out; omega), by omega, by go_num, by rw [Hkn.out], by rw [Hon.out, HX.out], hFq⟩
              case measure => (simp [intOf]) <;> omega
      · have h16' : ¬ 16 < v.length - a := by have := HRl.out; omega
        have h17' : ¬ (16 : Int) < (v.length : Int) - a := by omega
        have hpR : R = p := by have := Hpp.out; rw [this, List.take_of_length_le (by omega)]
        subst hpR
        by_cases hk0 : k = 0
        · have hz : ((a : Int) == 0) = true := by have := hak.out; rw [beq_iff_eq]; omega
          have hYK : Y = K := by have := Hky.out; rw [if_pos hk0] at this; exact this
          have HYK := Lib.hid hYK
          clear hYK hk0
          go_wp2_with fail
          refine (rmd5_any (s ++ L) _ (by rw [List.length_append]; omega)).mono ?_
          rintro e w1 ⟨rfl, hF1⟩
          rw [Hta.out]
          have hF2 := hF.trans hF1
          have hl1 := hF2.size
          have z0 : (arr8 (md5 (s ++ L))).size = 16 := by rw [arr8_size, md5_length]
          have z1 : (arr8 (md5 (s ++ L))).all (·.oneCell') = true := arr8_one _
          obtain ⟨Z, hZ⟩ : ∃ Z, arr8 (md5 (s ++ L)) = Z := ⟨_, rfl⟩
          rw [hZ] at z0 z1 ⊢
          have Hz0 := Lib.hid z0
          have Hz1 := Lib.hid z1
          clear hF hF1 hZ z0 z1
          go_wp2_with (refine wpList_store_blk rfl 23 (.tmp 15) (.tmp 35) rfl w1.heap.size 23 z16 Z ?k0 rfl rfl ?k1 ?k2 ?k3 ?_)
          case k0 => exact Blk.new _ _ _
          case k1 => rw [Hz0.out]; rfl
          case k2 => rw [Hz0.out]; exact info16b
          case k3 => exact Hz1.out
          intro w2 hw2 hBy
          have hF3 : Fr [] w w2 := by rw [hw2.out]; exact (hF2.alloc _).setCells _ _ _ (Or.inl hl1)
          clear hw2 hF2
          go_wp2_with fail
          refine (two_any kind _ ⟨k0, k1⟩).mono ?_
          rintro e w3 ⟨rfl, hF4⟩
          have hbe := be_length 2 kind
          have hb1 : ¬ 9223372036854775807 < 2 + s.length := by omega
          have hb2 : ¬ 9223372036854775807 < 2 + s.length + vec.length := by omega
          have hb3 : ¬ 9223372036854775807 < 2 + (s.length + vec.length) := by omega
          have hBy4 := hF4.blk hBy (by simp)
          have hF5 := hF3.trans hF4
          clear hF3 hF4 hBy
          go_wp2_with fail
          refine (rmd5_any _ _ (by first | (rw [HKe.out]; omega) | (simp only [List.length_append]; omega))).mono ?_
          rw [HKe.out]
          rintro e w4 ⟨rfl, hF6⟩
          have hmD : md5 K = D := by rw [← HD.out, HYK.out]
          rw [hmD]
          have hBy5 := hF6.blk hBy4 (by simp)
          have hF7 := hF5.trans hF6
          have ws : (arr8 D).size = 16 := by rw [arr8_size]; exact H16.out
          have wo : (arr8 D).all (·.oneCell') = true := arr8_one _
          obtain ⟨W, hW⟩ : ∃ W, arr8 D = W := ⟨_, rfl⟩
          rw [hW] at ws wo ⊢
          have HW := Lib.hid hW
          have Hws := Lib.hid ws
          have Hwo := Lib.hid wo
          clear hmD hBy4 hF5 hF6 hW ws wo hbe
          go_wp2_with (refine wpList_store_blk rfl 23 (.tmp 15) (.tmp 44) rfl w1.heap.size 23 Z W hBy5 rfl rfl ?k4 ?k5 ?k6 ?_)
          case k4 => rw [Hws.out, Hz0.out]
          case k5 => rw [Hws.out]; exact info16b
          case k6 => exact Hwo.out
          intro w5 hw5 hBw
          have hF8 : Fr [] w w5 := by rw [hw5.out]; exact hF7.setCells _ _ _ (Or.inl hl1)
          clear hw5 hBy5 hF7
          have hyl := hBw.lt
          obtain ⟨yb, hyb⟩ : ∃ b, w1.heap.size = b := ⟨_, rfl⟩
          rw [hyb] at hBw hyl hl1 ⊢
          obtain ⟨bs, hbs⟩ : ∃ b, w5.heap.size = b := ⟨_, rfl⟩
          have hbs5 : bs ≤ w5.heap.size := by omega
          have hl5 := hF8.size
          rw [hbs] at hyl hl5
          have hp16 : R.length ≤ 16 := by have := Hpl.out; omega
          have hdl : R.length ≤ D.length := by rw [H16.out]; exact hp16
          have hxl := xorL_length R D hdl
          have Hdl := Lib.hid hdl
          clear hyb hbs hdl
          go_wp2
          go_loopw [16, 17] (fun bv cv wq => ∃ i : Nat, i ≤ R.length ∧ cv = .int .i64 i ∧ wq.ownsRow bs 5 1 bv i ((ints8 (xorL (R.take i) D)).map (Value.int .u8)) ∧ Blk wq yb W 23 ∧ bs ≤ wq.heap.size ∧ Fr [] w wq) (fun _ cv _ => R.length - (intOf cv).toNat)
          case atStart => exact ⟨0, by omega, rfl, by have := World.ownsRow_nil w5 bs 5 1; simpa [xorL, ints8] using this, hBw, hbs5, hF8⟩
          case round =>
            clear hBw hF8 hbs5
            obtain ⟨i, hij, rfl, hown, hYq, hbq, hFq⟩ := hrel
            by_cases hip : i < R.length
            · have hdi : i < D.length := by have := Hdl.out; omega
              have hy1 : wr.cell? ⟨yb, i, none⟩ = some (.int .u8 (D[i].toNat : Int)) := hYq.c i _ (by rw [← HW.out]; unfold arr8; simp [hdi])
              have hyz := hYq.lt
              obtain ⟨b, hb⟩ : ∃ b, D[i] = b := ⟨_, rfl⟩
              rw [hb] at hy1
              have Hb := Lib.hid hb
              have i16 : (i : Int) < 16 := by omega
              have i17 : i < 16 := by omega
              clear hb
              go_wp2
              go_region_law (first | (refine step_append_own rfl (.tmp 51) (.tmp 59) 46 rfl bs 5 i0 (.int .u8 0) 1 1 Try.underlying46 hi hz0 hz1 hz2 rfl (by decide) _ i _ (by simp [Act.eval]) (World.ownsRow.alloc (own_drew hown) _) ⟨wr.heap.size, 0, none⟩ 1 1 [_] (by simp [Act.eval]) rfl (new_cells _ _ _) (by simp [Value.oneCell']) (by unfold maxLen; omega) (by omega) (by simp; omega) ?_; intro v' w' hown' hgr'))
              all_goals
                go_wp2
                go_roundw
                case rel =>
                  refine ⟨i + 1, by omega, by go_num, ?_, ((hYq.drew).alloc _).grown hgr' (fun g hg => by have := own_new hown g hg; omega), by have := hgr'.size; simp at this; omega, ((hFq.drew).alloc _).grown hgr' (fun g hg => by have := own_new hown g hg; omega)⟩
                  rw [xorL_snoc R D i hip (by have := Hdl.out; omega), Hb.out, ints8_snoc, ← u8x]
                  exact hown'
                case measure => (simp [intOf]) <;> omega
            · have hip2 : i = R.length := by omega
              rw [hip2, List.take_length] at hown
              obtain ⟨X, hX⟩ : ∃ X, xorL R D = X := ⟨_, rfl⟩
              rw [hX] at hown hxl
              have hcv := run_str_any (P := Try.prog) Try.underlying46 Try.underlying5 Try.underlying9 (ints8 X) _ hown
              rw [bytes_ints8] at hcv
              have HX := Lib.hid hX
              have hx16 : X.length ≤ 16 := by omega
              have Hown := Lib.hid hown
              clear hX hxl hip2 hown hYq
              go_wp2
              go_roundw
              case rel => exact ⟨k + 1, a + 16, Lib.hid (by have := hak.out; omega), by omega, by go_num, by rw [Hkn.out], by rw [Hon.out, HX.out], hFq⟩
              case measure => (simp [intOf]) <;> omega
        · have hz : ((a : Int) == 0) = false := by have := hak.out; rw [beq_eq_false_iff_ne]; omega
          have hYK : Y = s ++ L := by have := Hky.out; rw [if_neg hk0] at this; exact this
          have hmD : md5 (s ++ L) = D := by rw [← HD.out, hYK]
          have HmD := Lib.hid hmD
          clear hYK hk0 hmD
          go_wp2_with fail
          refine (rmd5_any (s ++ L) _ (by rw [List.length_append]; omega)).mono ?_
          rintro e w1 ⟨rfl, hF1⟩
          rw [Hta.out, HmD.out]
          have hF2 := hF.trans hF1
          have hl1 := hF2.size
          have ws : (arr8 D).size = 16 := by rw [arr8_size]; exact H16.out
          have wo : (arr8 D).all (·.oneCell') = true := arr8_one _
          obtain ⟨W, hW⟩ : ∃ W, arr8 D = W := ⟨_, rfl⟩
          rw [hW] at ws wo ⊢
          have HW := Lib.hid hW
          have Hws := Lib.hid ws
          have Hwo := Lib.hid wo
          clear hF hF1 hW ws wo
          go_wp2_with (refine wpList_store_blk rfl 23 (.tmp 15) (.tmp 35) rfl w1.heap.size 23 z16 W ?k7 rfl rfl ?k8 ?k9 ?k10 ?_)
          case k7 => exact Blk.new _ _ _
          case k8 => rw [Hws.out]; rfl
          case k9 => rw [Hws.out]; exact info16b
          case k10 => exact Hwo.out
          intro w5 hw5 hBw
          have hF8 : Fr [] w w5 := by rw [hw5.out]; exact (hF2.alloc _).setCells _ _ _ (Or.inl hl1)
          clear hw5 hF2
          have hyl := hBw.lt
          obtain ⟨yb, hyb⟩ : ∃ b, w1.heap.size = b := ⟨_, rfl⟩
          rw [hyb] at hBw hyl hl1 ⊢
          obtain ⟨bs, hbs⟩ : ∃ b, w5.heap.size = b := ⟨_, rfl⟩
          have hbs5 : bs ≤ w5.heap.size := by omega
          have hl5 := hF8.size
          rw [hbs] at hyl hl5
          have hp16 : R.length ≤ 16 := by have := Hpl.out; omega
          have hdl : R.length ≤ D.length := by rw [H16.out]; exact hp16
          have hxl := xorL_length R D hdl
          have Hdl := Lib.hid hdl
          clear hyb hbs hdl
          go_wp2
          go_loopw [16, 17] (fun bv cv wq => ∃ i : Nat, i ≤ R.length ∧ cv = .int .i64 i ∧ wq.ownsRow bs 5 1 bv i ((ints8 (xorL (R.take i) D)).map (Value.int .u8)) ∧ Blk wq yb W 23 ∧ bs ≤ wq.heap.size ∧ Fr [] w wq) (fun _ cv _ => R.length - (intOf cv).toNat)
          case atStart => exact ⟨0, by omega, rfl, by have := World.ownsRow_nil w5 bs 5 1; simpa [xorL, ints8] using this, hBw, hbs5, hF8⟩
          case round =>
            clear hBw hF8 hbs5
            obtain ⟨i, hij, rfl, hown, hYq, hbq, hFq⟩ := hrel
            by_cases hip : i < R.length
            · have hdi : i < D.length := by have := Hdl.out; omega
              have hy1 : wr.cell? ⟨yb, i, none⟩ = some (.int .u8 (D[i].toNat : Int)) := hYq.c i _ (by rw [← HW.out]; unfold arr8; simp [hdi])
              have hyz := hYq.lt
              obtain ⟨b, hb⟩ : ∃ b, D[i] = b := ⟨_, rfl⟩
              rw [hb] at hy1
              have Hb := Lib.hid hb
              have i16 : (i : Int) < 16 := by omega
              have i17 : i < 16 := by omega
              clear hb
              go_wp2
              go_region_law (first | (refine step_append_own rfl (.tmp 51) (.tmp 59) 46 rfl bs 5 i0 (.int .u8 0) 1 1 Try.underlying46 hi hz0 hz1 hz2 rfl (by decide) _ i _ (by simp [Act.eval]) (World.ownsRow.alloc (own_drew hown) _) ⟨wr.heap.size, 0, none⟩ 1 1 [_] (by simp [Act.eval]) rfl (new_cells _ _ _) (by simp [Value.oneCell']) (by unfold maxLen; omega) (by omega) (by simp; omega) ?_; intro v' w' hown' hgr'))
              all_goals
                go_wp2
                go_roundw
                case rel =>
                  refine ⟨i + 1, by omega, by go_num, ?_, ((hYq.drew).alloc _).grown hgr' (fun g hg => by have := own_new hown g hg; omega), by have := hgr'.size; simp at this; omega, ((hFq.drew).alloc _).grown hgr' (fun g hg => by have := own_new hown g hg; omega)⟩
                  rw [xorL_snoc R D i hip (by have := Hdl.out; omega), Hb.out, ints8_snoc, ← u8x]
                  exact hown'
                case measure => (simp [intOf]) <;> omega
            · have hip2 : i = R.length := by omega
              rw [hip2, List.take_length] at hown
              obtain ⟨X, hX⟩ : ∃ X, xorL R D = X := ⟨_, rfl⟩
              rw [hX] at hown hxl
              have hcv := run_str_any (P := Try.prog) Try.underlying46 Try.underlying5 Try.underlying9 (ints8 X) _ hown
              rw [bytes_ints8] at hcv
              have HX := Lib.hid hX
              have hx16 : X.length ≤ 16 := by omega
              have Hown := Lib.hid hown
              clear hX hxl hip2 hown hYq
              go_wp2
              go_roundw
              case rel => exact ⟨k + 1, a + 16, Lib.hid (by have := hak.out; omega), by omega, by go_num, by rw [Hkn.out], by rw [Hon.out, HX.out], hFq⟩
              case measure => (simp [intOf]) <;> omega
    · have hm := maskL_at true s v K k (by have := hak.out; omega)
      have Hm := Lib.hid hm
      have q1 : ¬ (a : Int) < v.length := by omega
      clear hm hol hll
      go_wp2
      go_ret
      exact ⟨by rw [Hm.out]; rfl, hF⟩
end Go.Proofs.Ytgeoldcddfmgnaa
