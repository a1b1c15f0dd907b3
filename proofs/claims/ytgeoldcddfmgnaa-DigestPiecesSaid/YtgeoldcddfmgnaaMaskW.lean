/- digest.masked, walked (printed by a small program for the two closures); the document's mask. -/
import Derived.Test.YtgeoldcddfmgnaaMask
namespace Go.Proofs.Ytgeoldcddfmgnaa
open Go.RowKit
set_option linter.unusedVariables false

theorem nextMask (x y : List UInt8) (w : World) : Calls Try.prog 44 #[.string (B x), .string (B y)] w fun e w' => e = .returned (.string (B y)) ∧ w = w' := by
  go_enter Try.func44, Try.ntmps44
  go_wp2
  go_ret
  exact ⟨rfl, rfl⟩
theorem nextUnmask (x y : List UInt8) (w : World) : Calls Try.prog 46 #[.string (B x), .string (B y)] w fun e w' => e = .returned (.string (B x)) ∧ w = w' := by
  go_enter Try.func46, Try.ntmps46
  go_wp2
  go_ret
  exact ⟨rfl, rfl⟩
/-- the first key -/
def maskK (kind : Int) (s vec : List UInt8) : List UInt8 := bytesOf [kind / 256 % 256, kind % 256] ++ (s ++ vec)
theorem maskK_length (kind : Int) (s vec : List UInt8) : (maskK kind s vec).length = s.length + vec.length + 2 := by
  unfold maskK
  rw [List.length_append, List.length_append]
  show 2 + _ = _
  omega

set_option maxRecDepth 100000 in
set_option maxHeartbeats 4000000 in
theorem masked_out (kind : Int) (s vec v : List UInt8) (w : World) (k0 : -9223372036854775808 ≤ kind) (k1 : kind ≤ 9223372036854775807) (hs : s.length ≤ 3000) (hvec : vec.length ≤ 3000) (hv : v.length ≤ 3000) :
    Calls Try.prog 43 #[.int .i64 kind, .string (B s), .string (B vec), .string (B v), .func (.func 44) #[] #[]] w fun e w' => e = .returned (.string (B (maskL false s v (maskK kind s vec)))) ∧ Fr [] w w' := by
  have hcv : ∀ W : World, (convert 46 9 (.slice (some ⟨W.heap.size, 0, none⟩) 2 2)).run Try.prog (W.alloc (.cells #[.int .u8 (kind / 256 % 256), .int .u8 (kind % 256)] 5)) = .ok (.string (B (bytesOf [kind / 256 % 256, kind % 256]))) (W.alloc (.cells #[.int .u8 (kind / 256 % 256), .int .u8 (kind % 256)] 5)) := fun W => run_str Try.underlying46 Try.underlying5 Try.underlying9 [kind / 256 % 256, kind % 256] (Blk.new _ _ _) 2 rfl
  have hb1 : (bytesOf [kind / 256 % 256, kind % 256]).length = 2 := rfl
  have hKl := maskK_length kind s vec
  obtain ⟨K, hK⟩ : ∃ K, maskK kind s vec = K := ⟨_, rfl⟩
  rw [hK] at hKl
  have hK2 : bytesOf [kind / 256 % 256, kind % 256] ++ (s ++ vec) = K := hK
  have HK := Lib.hid hK
  have HK2 := Lib.hid hK2
  have hKb : K.length ≤ 7000 := by omega
  clear hK hK2 hKl
  rw [HK.out]
  go_enter Try.func43, Try.ntmps43
  go_wp2
  rw [HK2.out]
  clear hcv hb1
  go_loopw [3, 11, 12] (fun vv kv ov wr => ∃ k : Nat, 16 * k < v.length + 16 ∧ vv = .string (B (v.drop (16 * k))) ∧ kv = .string (B (keyM false s v K k)) ∧ ov = .string (B (outM false s v K k)) ∧ Fr [] w wr) (fun vv _ _ _ => match vv with | .string x => x.size | _ => 0)
  case atStart => exact ⟨0, by omega, by rw [Nat.mul_zero]; rfl, rfl, rfl, (Fr.refl _ _).alloc _⟩
  case round =>
    obtain ⟨k, hk, rfl, rfl, rfl, hF⟩ := hrel
    have hol := outM_length false s v K k
    have hkl := keyM_length false s v K k
    by_cases hlt : 16 * k < v.length
    · have hRl : (v.drop (16 * k)).length = v.length - 16 * k := List.length_drop
      have hpc : pc v k = (v.drop (16 * k)).take 16 := rfl
      have hdr : v.drop (16 * (k + 1)) = (v.drop (16 * k)).drop 16 := by rw [List.drop_drop]; congr 1
      have hkn : keyM false s v K (k + 1) = s ++ xorL (pc v k) (md5 (keyM false s v K k)) := by simp [keyM]
      have hon : outM false s v K (k + 1) = outM false s v K k ++ xorL (pc v k) (md5 (keyM false s v K k)) := rfl
      have d16 := md5_length (keyM false s v K k)
      have Hmd := Lib.hid fun W => md5_any (keyM false s v K k) W (by omega)
      obtain ⟨R, hR⟩ : ∃ R, v.drop (16 * k) = R := ⟨_, rfl⟩
      obtain ⟨D, hD⟩ : ∃ D, md5 (keyM false s v K k) = D := ⟨_, rfl⟩
      obtain ⟨Y, hY⟩ : ∃ Y, keyM false s v K k = Y := ⟨_, rfl⟩
      obtain ⟨O, hO⟩ : ∃ O, outM false s v K k = O := ⟨_, rfl⟩
      obtain ⟨p, hp⟩ : ∃ p, R.take 16 = p := ⟨_, rfl⟩
      rw [hR] at hRl hpc hdr
      rw [hp] at hpc
      rw [hpc, hD] at hkn
      rw [hpc, hD] at hon
      rw [hD] at d16
      rw [hD, hY] at Hmd
      rw [hO] at hol hon
      rw [hY] at hkl
      rw [hR, hY, hO]
      have hpl : p.length = min 16 R.length := by rw [← hp, List.length_take]
      have hOb : O.length ≤ 3000 := by omega
      have hYb : Y.length ≤ 20000 := by omega
      have hR0 : 0 < R.length := by omega
      have hRe : R.isEmpty = false := by cases R with | nil => simp at hR0 | cons _ _ => rfl
      have hRb : R.length ≤ 3000 := by omega
      have hpp : p = R.take 16 := hp.symm
      have Hpp := Lib.hid hpp
      have Hpl := Lib.hid hpl
      have Hdr := Lib.hid hdr
      have Hkn := Lib.hid hkn
      have Hon := Lib.hid hon
      have HRl := Lib.hid hRl
      have H16 := Lib.hid d16
      clear hol hkl hR hD hY hO hp hpp hpl hpc hdr hkn hon hRl d16
      rcases Nat.lt_trichotomy 16 R.length with h16 | h16 | h16
      · have h16' : (16 : Int) < R.length := by omega
        have hmin : min 16 R.length = 16 := by omega
        have hT : List.take (R.length - min 16 R.length) (List.drop (min 16 R.length) R) = R.drop 16 := by rw [hmin, List.take_of_length_le (by rw [List.length_drop]; omega)]
        have HT := Lib.hid hT
        clear hmin hT
        go_wp2_with fail
        refine (Hmd.out _).mono ?_
        rintro e w1 ⟨rfl, hF1⟩
        rw [← Hpp.out, HT.out]
        have hF2 := hF.trans hF1
        have ws : (arr8 D).size = 16 := by rw [arr8_size]; exact H16.out
        have wo : (arr8 D).all (·.oneCell') = true := arr8_one _
        obtain ⟨W, hW⟩ : ∃ W, arr8 D = W := ⟨_, rfl⟩
        rw [hW] at ws wo ⊢
        have HW := Lib.hid hW
        have Hws := Lib.hid ws
        have Hwo := Lib.hid wo
        have hl1 := hF2.size
        clear hW ws wo hF hF1 Hmd
        go_wp2_with (refine wpList_store_blk rfl 23 (.tmp 14) (.tmp 40) rfl w1.heap.size 23 z16 W ?k0 rfl rfl ?k1 ?k2 ?k3 ?_)
        case k0 => exact Blk.new _ _ _
        case k1 => rw [Hws.out]; rfl
        case k2 => rw [Hws.out]; exact info16b
        case k3 => exact Hwo.out
        intro w2 hw2 hBy
        have hF3 : Fr [] w w2 := by rw [hw2.out]; exact (hF2.alloc _).setCells _ _ _ (Or.inl hl1)
        have hby := hBy.lt
        have hcb := run_bytes_of_string (P := Try.prog) w2 9 46 5 (B p) Try.underlying9 Try.underlying46 Try.underlying5
        rw [B_size] at hcb
        obtain ⟨cap, hcap⟩ : ∃ c, grownCap w2 p.length 0 5 = c := ⟨_, rfl⟩
        have hge : p.length ≤ cap := hcap ▸ grownCap_ge w2 p.length 0 5
        rw [hcap] at hcb
        have hBs := bytes_of w2 p cap 5 ((bytesRow (B p) cap).size, (bytesRow (B p) cap).size + 1) (by simp [bytesRow, B])
        have hBy3 := (hBy.drew).alloc (.cells (bytesRow (B p) cap) 5 ((bytesRow (B p) cap).size, (bytesRow (B p) cap).size + 1))
        have hF4 := (hF3.drew).alloc (.cells (bytesRow (B p) cap) 5 ((bytesRow (B p) cap).size, (bytesRow (B p) cap).size + 1))
        obtain ⟨w3, hw3⟩ : ∃ V, w2.drew.alloc (.cells (bytesRow (B p) cap) 5 ((bytesRow (B p) cap).size, (bytesRow (B p) cap).size + 1)) = V := ⟨_, rfl⟩
        have hsz3 : w2.heap.size < w3.heap.size := by rw [← hw3]; simp
        rw [hw3] at hcb hBs hBy3 hF4
        rw [← xorAt_zero p D] at hBs
        have hl2 := hF3.size
        have hp16 : p.length ≤ 16 := by have := Hpl.out; omega
        have hdl : p.length ≤ D.length := by rw [H16.out]; exact hp16
        have hxl := xorL_length p D hdl
        obtain ⟨bb, hbb⟩ : ∃ b, w2.heap.size = b := ⟨_, rfl⟩
        obtain ⟨yb, hyb⟩ : ∃ b, w1.heap.size = b := ⟨_, rfl⟩
        rw [hbb] at hcb hBs hsz3 hl2 hby
        rw [hyb] at hBy3 hby hl1 ⊢
        have Hdl := Lib.hid hdl
        clear hw2 hBy hF3 hF2 hcap hge hw3 hdl hbb hyb
        go_wp2
        go_loopw [45] (fun cv wq => ∃ i : Nat, i ≤ p.length ∧ cv = .int .i64 i ∧ bb < wq.heap.size ∧ Bytes wq bb (xorAt p D i) ∧ Blk wq yb W 23 ∧ Fr [] w wq) (fun cv _ => p.length - (intOf cv).toNat)
        case atStart => exact ⟨0, by omega, rfl, hsz3, hBs, hBy3, hF4⟩
        case round =>
          obtain ⟨i, hi, rfl, hbq, hBq, hYq, hFq⟩ := hrel
          clear hcb hBs hBy3 hF4
          by_cases hip : i < p.length
          · have hx1 := hBq i (by rw [xorAt_length p D i Hdl.out]; exact hip)
            rw [xorAt_get p D i Hdl.out hip] at hx1
            have hnx := xorAt_next p D i Hdl.out hip
            have hdi : i < D.length := by have := Hdl.out; omega
            have hy1 : wr.cell? ⟨yb, i, none⟩ = some (.int .u8 (D[i].toNat : Int)) := hYq.c i _ (by rw [← HW.out]; unfold arr8; simp [hdi])
            obtain ⟨a, ha⟩ : ∃ a, p[i] = a := ⟨_, rfl⟩
            obtain ⟨b, hb⟩ : ∃ b, D[i] = b := ⟨_, rfl⟩
            rw [ha] at hx1 hnx
            rw [hb] at hy1 hnx
            obtain ⟨hx1, hx2⟩ := hx1
            have Hnx := Lib.hid hnx
            have i16 : (i : Int) < 16 := by omega
            have hx8 := u8x a b
            clear ha hb hnx
            go_wp2
            go_region
            all_goals go_wp2
            go_roundw
            case rel =>
              have hst := hBq.set i (a ^^^ b)
              rw [Hnx.out] at hst
              exact ⟨i + 1, by omega, by go_num, by simpa using hbq, hst.drew, (hYq.set_other _ (by simp; omega) _).drew, (hFq.setNew (by simp; omega) _).drew⟩
            case measure => (simp [intOf]) <;> omega
          · have hip2 : i = p.length := by omega
            rw [hip2, xorAt_end] at hBq
            obtain ⟨X, hX⟩ : ∃ X, xorL p D = X := ⟨_, rfl⟩
            rw [hX] at hBq hxl
            have hcv2 := hBq.str (P := Try.prog) cap Try.underlying46 Try.underlying5 Try.underlying9 p.length hxl
            have HX := Lib.hid hX
            have Hxl := Lib.hid hxl
            have hx16 : X.length ≤ 16 := by omega
            clear hX hxl hip2 hBq hYq
            go_wp2_with fail
            refine (nextMask p X _).mono ?_
            rintro e w4 ⟨rfl, rfl⟩
            go_wp2
            go_roundw
            case rel => exact ⟨k + 1, by have := HRl.out; omega, by rw [Hdr.out], by rw [Hkn.out, HX.out], by rw [Hon.out, HX.out], hFq⟩
            case measure =>
              have := HRl.out
              simp [B_size]; omega
      · have h16' : (R.length : Int) ≤ 16 := by omega
        have h17' : (16 : Int) ≤ R.length := by omega
        have hmin : min 16 R.length = 16 := by omega
        have hT : List.take (R.length - min 16 R.length) (List.drop (min 16 R.length) R) = R.drop 16 := by rw [hmin, List.take_of_length_le (by rw [List.length_drop]; omega)]
        have HT := Lib.hid hT
        clear hmin hT h16
        go_wp2_with fail
        refine (Hmd.out _).mono ?_
        rintro e w1 ⟨rfl, hF1⟩
        rw [← Hpp.out, HT.out]
        have hF2 := hF.trans hF1
        have ws : (arr8 D).size = 16 := by rw [arr8_size]; exact H16.out
        have wo : (arr8 D).all (·.oneCell') = true := arr8_one _
        obtain ⟨W, hW⟩ : ∃ W, arr8 D = W := ⟨_, rfl⟩
        rw [hW] at ws wo ⊢
        have HW := Lib.hid hW
        have Hws := Lib.hid ws
        have Hwo := Lib.hid wo
        have hl1 := hF2.size
        clear hW ws wo hF hF1 Hmd
        go_wp2_with (refine wpList_store_blk rfl 23 (.tmp 14) (.tmp 40) rfl w1.heap.size 23 z16 W ?k0 rfl rfl ?k1 ?k2 ?k3 ?_)
        case k0 => exact Blk.new _ _ _
        case k1 => rw [Hws.out]; rfl
        case k2 => rw [Hws.out]; exact info16b
        case k3 => exact Hwo.out
        intro w2 hw2 hBy
        have hF3 : Fr [] w w2 := by rw [hw2.out]; exact (hF2.alloc _).setCells _ _ _ (Or.inl hl1)
        have hby := hBy.lt
        have hcb := run_bytes_of_string (P := Try.prog) w2 9 46 5 (B p) Try.underlying9 Try.underlying46 Try.underlying5
        rw [B_size] at hcb
        obtain ⟨cap, hcap⟩ : ∃ c, grownCap w2 p.length 0 5 = c := ⟨_, rfl⟩
        have hge : p.length ≤ cap := hcap ▸ grownCap_ge w2 p.length 0 5
        rw [hcap] at hcb
        have hBs := bytes_of w2 p cap 5 ((bytesRow (B p) cap).size, (bytesRow (B p) cap).size + 1) (by simp [bytesRow, B])
        have hBy3 := (hBy.drew).alloc (.cells (bytesRow (B p) cap) 5 ((bytesRow (B p) cap).size, (bytesRow (B p) cap).size + 1))
        have hF4 := (hF3.drew).alloc (.cells (bytesRow (B p) cap) 5 ((bytesRow (B p) cap).size, (bytesRow (B p) cap).size + 1))
        obtain ⟨w3, hw3⟩ : ∃ V, w2.drew.alloc (.cells (bytesRow (B p) cap) 5 ((bytesRow (B p) cap).size, (bytesRow (B p) cap).size + 1)) = V := ⟨_, rfl⟩
        have hsz3 : w2.heap.size < w3.heap.size := by rw [← hw3]; simp
        rw [hw3] at hcb hBs hBy3 hF4
        rw [← xorAt_zero p D] at hBs
        have hl2 := hF3.size
        have hp16 : p.length ≤ 16 := by have := Hpl.out; omega
        have hdl : p.length ≤ D.length := by rw [H16.out]; exact hp16
        have hxl := xorL_length p D hdl
        obtain ⟨bb, hbb⟩ : ∃ b, w2.heap.size = b := ⟨_, rfl⟩
        obtain ⟨yb, hyb⟩ : ∃ b, w1.heap.size = b := ⟨_, rfl⟩
        rw [hbb] at hcb hBs hsz3 hl2 hby
        rw [hyb] at hBy3 hby hl1 ⊢
        have Hdl := Lib.hid hdl
        clear hw2 hBy hF3 hF2 hcap hge hw3 hdl hbb hyb
        go_wp2
        go_loopw [45] (fun cv wq => ∃ i : Nat, i ≤ p.length ∧ cv = .int .i64 i ∧ bb < wq.heap.size ∧ Bytes wq bb (xorAt p D i) ∧ Blk wq yb W 23 ∧ Fr [] w wq) (fun cv _ => p.length - (intOf cv).toNat)
        case atStart => exact ⟨0, by omega, rfl, hsz3, hBs, hBy3, hF4⟩
        case round =>
          obtain ⟨i, hi, rfl, hbq, hBq, hYq, hFq⟩ := hrel
          clear hcb hBs hBy3 hF4
          by_cases hip : i < p.length
          · have hx1 := hBq i (by rw [xorAt_length p D i Hdl.out]; exact hip)
            rw [xorAt_get p D i Hdl.out hip] at hx1
            have hnx := xorAt_next p D i Hdl.out hip
            have hdi : i < D.length := by have := Hdl.out; omega
            have hy1 : wr.cell? ⟨yb, i, none⟩ = some (.int .u8 (D[i].toNat : Int)) := hYq.c i _ (by rw [← HW.out]; unfold arr8; simp [hdi])
            obtain ⟨a, ha⟩ : ∃ a, p[i] = a := ⟨_, rfl⟩
            obtain ⟨b, hb⟩ : ∃ b, D[i] = b := ⟨_, rfl⟩
            rw [ha] at hx1 hnx
            rw [hb] at hy1 hnx
            obtain ⟨hx1, hx2⟩ := hx1
            have Hnx := Lib.hid hnx
            have i16 : (i : Int) < 16 := by omega
            have hx8 := u8x a b
            clear ha hb hnx
            go_wp2
            go_region
            all_goals go_wp2
            go_roundw
            case rel =>
              have hst := hBq.set i (a ^^^ b)
              rw [Hnx.out] at hst
              exact ⟨i + 1, by omega, by go_num, by simpa using hbq, hst.drew, (hYq.set_other _ (by simp; omega) _).drew, (hFq.setNew (by simp; omega) _).drew⟩
            case measure => (simp [intOf]) <;> omega
          · have hip2 : i = p.length := by omega
            rw [hip2, xorAt_end] at hBq
            obtain ⟨X, hX⟩ : ∃ X, xorL p D = X := ⟨_, rfl⟩
            rw [hX] at hBq hxl
            have hcv2 := hBq.str (P := Try.prog) cap Try.underlying46 Try.underlying5 Try.underlying9 p.length hxl
            have HX := Lib.hid hX
            have Hxl := Lib.hid hxl
            have hx16 : X.length ≤ 16 := by omega
            clear hX hxl hip2 hBq hYq
            go_wp2_with fail
            refine (nextMask p X _).mono ?_
            rintro e w4 ⟨rfl, rfl⟩
            go_wp2
            go_roundw
            case rel => exact ⟨k + 1, by have := HRl.out; omega, by rw [Hdr.out], by rw [Hkn.out, HX.out], by rw [Hon.out, HX.out], hFq⟩
            case measure =>
              have := HRl.out
              simp [B_size]; omega
      · have h16' : (R.length : Int) < 16 := by omega
        have hpR : R = p := by have := Hpp.out; rw [this, List.take_of_length_le (by omega)]
        subst hpR
        have hT : R.drop 16 = [] := by rw [List.drop_of_length_le (by omega)]
        have HT := Lib.hid hT
        clear hT
        go_wp2_with fail
        refine (Hmd.out _).mono ?_
        rintro e w1 ⟨rfl, hF1⟩
        have hF2 := hF.trans hF1
        have ws : (arr8 D).size = 16 := by rw [arr8_size]; exact H16.out
        have wo : (arr8 D).all (·.oneCell') = true := arr8_one _
        obtain ⟨W, hW⟩ : ∃ W, arr8 D = W := ⟨_, rfl⟩
        rw [hW] at ws wo ⊢
        have HW := Lib.hid hW
        have Hws := Lib.hid ws
        have Hwo := Lib.hid wo
        have hl1 := hF2.size
        clear hW ws wo hF hF1 Hmd
        go_wp2_with (refine wpList_store_blk rfl 23 (.tmp 14) (.tmp 40) rfl w1.heap.size 23 z16 W ?k0 rfl rfl ?k1 ?k2 ?k3 ?_)
        case k0 => exact Blk.new _ _ _
        case k1 => rw [Hws.out]; rfl
        case k2 => rw [Hws.out]; exact info16b
        case k3 => exact Hwo.out
        intro w2 hw2 hBy
        have hF3 : Fr [] w w2 := by rw [hw2.out]; exact (hF2.alloc _).setCells _ _ _ (Or.inl hl1)
        have hby := hBy.lt
        have hcb := run_bytes_of_string (P := Try.prog) w2 9 46 5 (B R) Try.underlying9 Try.underlying46 Try.underlying5
        rw [B_size] at hcb
        obtain ⟨cap, hcap⟩ : ∃ c, grownCap w2 R.length 0 5 = c := ⟨_, rfl⟩
        have hge : R.length ≤ cap := hcap ▸ grownCap_ge w2 R.length 0 5
        rw [hcap] at hcb
        have hBs := bytes_of w2 R cap 5 ((bytesRow (B R) cap).size, (bytesRow (B R) cap).size + 1) (by simp [bytesRow, B])
        have hBy3 := (hBy.drew).alloc (.cells (bytesRow (B R) cap) 5 ((bytesRow (B R) cap).size, (bytesRow (B R) cap).size + 1))
        have hF4 := (hF3.drew).alloc (.cells (bytesRow (B R) cap) 5 ((bytesRow (B R) cap).size, (bytesRow (B R) cap).size + 1))
        obtain ⟨w3, hw3⟩ : ∃ V, w2.drew.alloc (.cells (bytesRow (B R) cap) 5 ((bytesRow (B R) cap).size, (bytesRow (B R) cap).size + 1)) = V := ⟨_, rfl⟩
        have hsz3 : w2.heap.size < w3.heap.size := by rw [← hw3]; simp
        rw [hw3] at hcb hBs hBy3 hF4
        rw [← xorAt_zero R D] at hBs
        have hl2 := hF3.size
        have hp16 : R.length ≤ 16 := by have := Hpl.out; omega
        have hdl : R.length ≤ D.length := by rw [H16.out]; exact hp16
        have hxl := xorL_length R D hdl
        obtain ⟨bb, hbb⟩ : ∃ b, w2.heap.size = b := ⟨_, rfl⟩
        obtain ⟨yb, hyb⟩ : ∃ b, w1.heap.size = b := ⟨_, rfl⟩
        rw [hbb] at hcb hBs hsz3 hl2 hby
        rw [hyb] at hBy3 hby hl1 ⊢
        have Hdl := Lib.hid hdl
        clear hw2 hBy hF3 hF2 hcap hge hw3 hdl hbb hyb
        go_wp2
        go_loopw [45] (fun cv wq => ∃ i : Nat, i ≤ R.length ∧ cv = .int .i64 i ∧ bb < wq.heap.size ∧ Bytes wq bb (xorAt R D i) ∧ Blk wq yb W 23 ∧ Fr [] w wq) (fun cv _ => R.length - (intOf cv).toNat)
        case atStart => exact ⟨0, by omega, rfl, hsz3, hBs, hBy3, hF4⟩
        case round =>
          obtain ⟨i, hi, rfl, hbq, hBq, hYq, hFq⟩ := hrel
          clear hcb hBs hBy3 hF4
          by_cases hip : i < R.length
          · have hx1 := hBq i (by rw [xorAt_length R D i Hdl.out]; exact hip)
            rw [xorAt_get R D i Hdl.out hip] at hx1
            have hnx := xorAt_next R D i Hdl.out hip
            have hdi : i < D.length := by have := Hdl.out; omega
            have hy1 : wr.cell? ⟨yb, i, none⟩ = some (.int .u8 (D[i].toNat : Int)) := hYq.c i _ (by rw [← HW.out]; unfold arr8; simp [hdi])
            obtain ⟨a, ha⟩ : ∃ a, R[i] = a := ⟨_, rfl⟩
            obtain ⟨b, hb⟩ : ∃ b, D[i] = b := ⟨_, rfl⟩
            rw [ha] at hx1 hnx
            rw [hb] at hy1 hnx
            obtain ⟨hx1, hx2⟩ := hx1
            have Hnx := Lib.hid hnx
            have i16 : (i : Int) < 16 := by omega
            have hx8 := u8x a b
            clear ha hb hnx
            go_wp2
            go_region
            all_goals go_wp2
            go_roundw
            case rel =>
              have hst := hBq.set i (a ^^^ b)
              rw [Hnx.out] at hst
              exact ⟨i + 1, by omega, by go_num, by simpa using hbq, hst.drew, (hYq.set_other _ (by simp; omega) _).drew, (hFq.setNew (by simp; omega) _).drew⟩
            case measure => (simp [intOf]) <;> omega
          · have hip2 : i = R.length := by omega
            rw [hip2, xorAt_end] at hBq
            obtain ⟨X, hX⟩ : ∃ X, xorL R D = X := ⟨_, rfl⟩
            rw [hX] at hBq hxl
            have hcv2 := hBq.str (P := Try.prog) cap Try.underlying46 Try.underlying5 Try.underlying9 R.length hxl
            have HX := Lib.hid hX
            have Hxl := Lib.hid hxl
            have hx16 : X.length ≤ 16 := by omega
            clear hX hxl hip2 hBq hYq
            go_wp2_with fail
            refine (nextMask R X _).mono ?_
            rintro e w4 ⟨rfl, rfl⟩
            go_wp2
            go_roundw
            case rel => exact ⟨k + 1, by have := HRl.out; omega, by rw [Hdr.out, HT.out]; rfl, by rw [Hkn.out, HX.out], by rw [Hon.out, HX.out], hFq⟩
            case measure =>
              show (ByteArray.empty).size < (B R).size
              rw [B_size]; exact hR0
    · have hd : v.drop (16 * k) = [] := List.drop_of_length_le (by omega)
      have hm := maskL_at false s v K k (by omega)
      rw [hd]
      have Hm := Lib.hid hm
      clear hd hm hol hkl
      go_wp2
      go_ret
      exact ⟨by rw [Hm.out]; rfl, hF⟩

set_option maxRecDepth 100000 in
set_option maxHeartbeats 4000000 in
theorem masked_in (kind : Int) (s vec v : List UInt8) (w : World) (k0 : -9223372036854775808 ≤ kind) (k1 : kind ≤ 9223372036854775807) (hs : s.length ≤ 3000) (hvec : vec.length ≤ 3000) (hv : v.length ≤ 3000) :
    Calls Try.prog 43 #[.int .i64 kind, .string (B s), .string (B vec), .string (B v), .func (.func 46) #[] #[]] w fun e w' => e = .returned (.string (B (maskL true s v (maskK kind s vec)))) ∧ Fr [] w w' := by
  have hcv : ∀ W : World, (convert 46 9 (.slice (some ⟨W.heap.size, 0, none⟩) 2 2)).run Try.prog (W.alloc (.cells #[.int .u8 (kind / 256 % 256), .int .u8 (kind % 256)] 5)) = .ok (.string (B (bytesOf [kind / 256 % 256, kind % 256]))) (W.alloc (.cells #[.int .u8 (kind / 256 % 256), .int .u8 (kind % 256)] 5)) := fun W => run_str Try.underlying46 Try.underlying5 Try.underlying9 [kind / 256 % 256, kind % 256] (Blk.new _ _ _) 2 rfl
  have hb1 : (bytesOf [kind / 256 % 256, kind % 256]).length = 2 := rfl
  have hKl := maskK_length kind s vec
  obtain ⟨K, hK⟩ : ∃ K, maskK kind s vec = K := ⟨_, rfl⟩
  rw [hK] at hKl
  have hK2 : bytesOf [kind / 256 % 256, kind % 256] ++ (s ++ vec) = K := hK
  have HK := Lib.hid hK
  have HK2 := Lib.hid hK2
  have hKb : K.length ≤ 7000 := by omega
  clear hK hK2 hKl
  rw [HK.out]
  go_enter Try.func43, Try.ntmps43
  go_wp2
  rw [HK2.out]
  clear hcv hb1
  go_loopw [3, 11, 12] (fun vv kv ov wr => ∃ k : Nat, 16 * k < v.length + 16 ∧ vv = .string (B (v.drop (16 * k))) ∧ kv = .string (B (keyM true s v K k)) ∧ ov = .string (B (outM true s v K k)) ∧ Fr [] w wr) (fun vv _ _ _ => match vv with | .string x => x.size | _ => 0)
  case atStart => exact ⟨0, by omega, by rw [Nat.mul_zero]; rfl, rfl, rfl, (Fr.refl _ _).alloc _⟩
  case round =>
    obtain ⟨k, hk, rfl, rfl, rfl, hF⟩ := hrel
    have hol := outM_length true s v K k
    have hkl := keyM_length true s v K k
    by_cases hlt : 16 * k < v.length
    · have hRl : (v.drop (16 * k)).length = v.length - 16 * k := List.length_drop
      have hpc : pc v k = (v.drop (16 * k)).take 16 := rfl
      have hdr : v.drop (16 * (k + 1)) = (v.drop (16 * k)).drop 16 := by rw [List.drop_drop]; congr 1
      have hkn : keyM true s v K (k + 1) = s ++ pc v k := by simp [keyM]
      have hon : outM true s v K (k + 1) = outM true s v K k ++ xorL (pc v k) (md5 (keyM true s v K k)) := rfl
      have d16 := md5_length (keyM true s v K k)
      have Hmd := Lib.hid fun W => md5_any (keyM true s v K k) W (by omega)
      obtain ⟨R, hR⟩ : ∃ R, v.drop (16 * k) = R := ⟨_, rfl⟩
      obtain ⟨D, hD⟩ : ∃ D, md5 (keyM true s v K k) = D := ⟨_, rfl⟩
      obtain ⟨Y, hY⟩ : ∃ Y, keyM true s v K k = Y := ⟨_, rfl⟩
      obtain ⟨O, hO⟩ : ∃ O, outM true s v K k = O := ⟨_, rfl⟩
      obtain ⟨p, hp⟩ : ∃ p, R.take 16 = p := ⟨_, rfl⟩
      rw [hR] at hRl hpc hdr
      rw [hp] at hpc
      rw [hpc] at hkn
      rw [hpc, hD] at hon
      rw [hD] at d16
      rw [hD, hY] at Hmd
      rw [hO] at hol hon
      rw [hY] at hkl
      rw [hR, hY, hO]
      have hpl : p.length = min 16 R.length := by rw [← hp, List.length_take]
      have hOb : O.length ≤ 3000 := by omega
      have hYb : Y.length ≤ 20000 := by omega
      have hR0 : 0 < R.length := by omega
      have hRe : R.isEmpty = false := by cases R with | nil => simp at hR0 | cons _ _ => rfl
      have hRb : R.length ≤ 3000 := by omega
      have hpp : p = R.take 16 := hp.symm
      have Hpp := Lib.hid hpp
      have Hpl := Lib.hid hpl
      have Hdr := Lib.hid hdr
      have Hkn := Lib.hid hkn
      have Hon := Lib.hid hon
      have HRl := Lib.hid hRl
      have H16 := Lib.hid d16
      clear hol hkl hR hD hY hO hp hpp hpl hpc hdr hkn hon hRl d16
      rcases Nat.lt_trichotomy 16 R.length with h16 | h16 | h16
      · have h16' : (16 : Int) < R.length := by omega
        have hmin : min 16 R.length = 16 := by omega
        have hT : List.take (R.length - min 16 R.length) (List.drop (min 16 R.length) R) = R.drop 16 := by rw [hmin, List.take_of_length_le (by rw [List.length_drop]; omega)]
        have HT := Lib.hid hT
        clear hmin hT
        go_wp2_with fail
        refine (Hmd.out _).mono ?_
        rintro e w1 ⟨rfl, hF1⟩
        rw [← Hpp.out, HT.out]
        have hF2 := hF.trans hF1
        have ws : (arr8 D).size = 16 := by rw [arr8_size]; exact H16.out
        have wo : (arr8 D).all (·.oneCell') = true := arr8_one _
        obtain ⟨W, hW⟩ : ∃ W, arr8 D = W := ⟨_, rfl⟩
        rw [hW] at ws wo ⊢
        have HW := Lib.hid hW
        have Hws := Lib.hid ws
        have Hwo := Lib.hid wo
        have hl1 := hF2.size
        clear hW ws wo hF hF1 Hmd
        go_wp2_with (refine wpList_store_blk rfl 23 (.tmp 14) (.tmp 40) rfl w1.heap.size 23 z16 W ?k0 rfl rfl ?k1 ?k2 ?k3 ?_)
        case k0 => exact Blk.new _ _ _
        case k1 => rw [Hws.out]; rfl
        case k2 => rw [Hws.out]; exact info16b
        case k3 => exact Hwo.out
        intro w2 hw2 hBy
        have hF3 : Fr [] w w2 := by rw [hw2.out]; exact (hF2.alloc _).setCells _ _ _ (Or.inl hl1)
        have hby := hBy.lt
        have hcb := run_bytes_of_string (P := Try.prog) w2 9 46 5 (B p) Try.underlying9 Try.underlying46 Try.underlying5
        rw [B_size] at hcb
        obtain ⟨cap, hcap⟩ : ∃ c, grownCap w2 p.length 0 5 = c := ⟨_, rfl⟩
        have hge : p.length ≤ cap := hcap ▸ grownCap_ge w2 p.length 0 5
        rw [hcap] at hcb
        have hBs := bytes_of w2 p cap 5 ((bytesRow (B p) cap).size, (bytesRow (B p) cap).size + 1) (by simp [bytesRow, B])
        have hBy3 := (hBy.drew).alloc (.cells (bytesRow (B p) cap) 5 ((bytesRow (B p) cap).size, (bytesRow (B p) cap).size + 1))
        have hF4 := (hF3.drew).alloc (.cells (bytesRow (B p) cap) 5 ((bytesRow (B p) cap).size, (bytesRow (B p) cap).size + 1))
        obtain ⟨w3, hw3⟩ : ∃ V, w2.drew.alloc (.cells (bytesRow (B p) cap) 5 ((bytesRow (B p) cap).size, (bytesRow (B p) cap).size + 1)) = V := ⟨_, rfl⟩
        have hsz3 : w2.heap.size < w3.heap.size := by rw [← hw3]; simp
        rw [hw3] at hcb hBs hBy3 hF4
        rw [← xorAt_zero p D] at hBs
        have hl2 := hF3.size
        have hp16 : p.length ≤ 16 := by have := Hpl.out; omega
        have hdl : p.length ≤ D.length := by rw [H16.out]; exact hp16
        have hxl := xorL_length p D hdl
        obtain ⟨bb, hbb⟩ : ∃ b, w2.heap.size = b := ⟨_, rfl⟩
        obtain ⟨yb, hyb⟩ : ∃ b, w1.heap.size = b := ⟨_, rfl⟩
        rw [hbb] at hcb hBs hsz3 hl2 hby
        rw [hyb] at hBy3 hby hl1 ⊢
        have Hdl := Lib.hid hdl
        clear hw2 hBy hF3 hF2 hcap hge hw3 hdl hbb hyb
        go_wp2
        go_loopw [45] (fun cv wq => ∃ i : Nat, i ≤ p.length ∧ cv = .int .i64 i ∧ bb < wq.heap.size ∧ Bytes wq bb (xorAt p D i) ∧ Blk wq yb W 23 ∧ Fr [] w wq) (fun cv _ => p.length - (intOf cv).toNat)
        case atStart => exact ⟨0, by omega, rfl, hsz3, hBs, hBy3, hF4⟩
        case round =>
          obtain ⟨i, hi, rfl, hbq, hBq, hYq, hFq⟩ := hrel
          clear hcb hBs hBy3 hF4
          by_cases hip : i < p.length
          · have hx1 := hBq i (by rw [xorAt_length p D i Hdl.out]; exact hip)
            rw [xorAt_get p D i Hdl.out hip] at hx1
            have hnx := xorAt_next p D i Hdl.out hip
            have hdi : i < D.length := by have := Hdl.out; omega
            have hy1 : wr.cell? ⟨yb, i, none⟩ = some (.int .u8 (D[i].toNat : Int)) := hYq.c i _ (by rw [← HW.out]; unfold arr8; simp [hdi])
            obtain ⟨a, ha⟩ : ∃ a, p[i] = a := ⟨_, rfl⟩
            obtain ⟨b, hb⟩ : ∃ b, D[i] = b := ⟨_, rfl⟩
            rw [ha] at hx1 hnx
            rw [hb] at hy1 hnx
            obtain ⟨hx1, hx2⟩ := hx1
            have Hnx := Lib.hid hnx
            have i16 : (i : Int) < 16 := by omega
            have hx8 := u8x a b
            clear ha hb hnx
            go_wp2
            go_region
            all_goals go_wp2
            go_roundw
            case rel =>
              have hst := hBq.set i (a ^^^ b)
              rw [Hnx.out] at hst
              exact ⟨i + 1, by omega, by go_num, by simpa using hbq, hst.drew, (hYq.set_other _ (by simp; omega) _).drew, (hFq.setNew (by simp; omega) _).drew⟩
            case measure => (simp [intOf]) <;> omega
          · have hip2 : i = p.length := by omega
            rw [hip2, xorAt_end] at hBq
            obtain ⟨X, hX⟩ : ∃ X, xorL p D = X := ⟨_, rfl⟩
            rw [hX] at hBq hxl
            have hcv2 := hBq.str (P := Try.prog) cap Try.underlying46 Try.underlying5 Try.underlying9 p.length hxl
            have HX := Lib.hid hX
            have Hxl := Lib.hid hxl
            have hx16 : X.length ≤ 16 := by omega
            clear hX hxl hip2 hBq hYq
            go_wp2_with fail
            refine (nextUnmask p X _).mono ?_
            rintro e w4 ⟨rfl, rfl⟩
            go_wp2
            go_roundw
            case rel => exact ⟨k + 1, by have := HRl.out; omega, by rw [Hdr.out], by rw [Hkn.out], by rw [Hon.out, HX.out], hFq⟩
            case measure =>
              have := HRl.out
              simp [B_size]; omega
      · have h16' : (R.length : Int) ≤ 16 := by omega
        have h17' : (16 : Int) ≤ R.length := by omega
        have hmin : min 16 R.length = 16 := by omega
        have hT : List.take (R.length - min 16 R.length) (List.drop (min 16 R.length) R) = R.drop 16 := by rw [hmin, List.take_of_length_le (by rw [List.length_drop]; omega)]
        have HT := Lib.hid hT
        clear hmin hT h16
        go_wp2_with fail
        refine (Hmd.out _).mono ?_
        rintro e w1 ⟨rfl, hF1⟩
        rw [← Hpp.out, HT.out]
        have hF2 := hF.trans hF1
        have ws : (arr8 D).size = 16 := by rw [arr8_size]; exact H16.out
        have wo : (arr8 D).all (·.oneCell') = true := arr8_one _
        obtain ⟨W, hW⟩ : ∃ W, arr8 D = W := ⟨_, rfl⟩
        rw [hW] at ws wo ⊢
        have HW := Lib.hid hW
        have Hws := Lib.hid ws
        have Hwo := Lib.hid wo
        have hl1 := hF2.size
        clear hW ws wo hF hF1 Hmd
        go_wp2_with (refine wpList_store_blk rfl 23 (.tmp 14) (.tmp 40) rfl w1.heap.size 23 z16 W ?k0 rfl rfl ?k1 ?k2 ?k3 ?_)
        case k0 => exact Blk.new _ _ _
        case k1 => rw [Hws.out]; rfl
        case k2 => rw [Hws.out]; exact info16b
        case k3 => exact Hwo.out
        intro w2 hw2 hBy
        have hF3 : Fr [] w w2 := by rw [hw2.out]; exact (hF2.alloc _).setCells _ _ _ (Or.inl hl1)
        have hby := hBy.lt
        have hcb := run_bytes_of_string (P := Try.prog) w2 9 46 5 (B p) Try.underlying9 Try.underlying46 Try.underlying5
        rw [B_size] at hcb
        obtain ⟨cap, hcap⟩ : ∃ c, grownCap w2 p.length 0 5 = c := ⟨_, rfl⟩
        have hge : p.length ≤ cap := hcap ▸ grownCap_ge w2 p.length 0 5
        rw [hcap] at hcb
        have hBs := bytes_of w2 p cap 5 ((bytesRow (B p) cap).size, (bytesRow (B p) cap).size + 1) (by simp [bytesRow, B])
        have hBy3 := (hBy.drew).alloc (.cells (bytesRow (B p) cap) 5 ((bytesRow (B p) cap).size, (bytesRow (B p) cap).size + 1))
        have hF4 := (hF3.drew).alloc (.cells (bytesRow (B p) cap) 5 ((bytesRow (B p) cap).size, (bytesRow (B p) cap).size + 1))
        obtain ⟨w3, hw3⟩ : ∃ V, w2.drew.alloc (.cells (bytesRow (B p) cap) 5 ((bytesRow (B p) cap).size, (bytesRow (B p) cap).size + 1)) = V := ⟨_, rfl⟩
        have hsz3 : w2.heap.size < w3.heap.size := by rw [← hw3]; simp
        rw [hw3] at hcb hBs hBy3 hF4
        rw [← xorAt_zero p D] at hBs
        have hl2 := hF3.size
        have hp16 : p.length ≤ 16 := by have := Hpl.out; omega
        have hdl : p.length ≤ D.length := by rw [H16.out]; exact hp16
        have hxl := xorL_length p D hdl
        obtain ⟨bb, hbb⟩ : ∃ b, w2.heap.size = b := ⟨_, rfl⟩
        obtain ⟨yb, hyb⟩ : ∃ b, w1.heap.size = b := ⟨_, rfl⟩
        rw [hbb] at hcb hBs hsz3 hl2 hby
        rw [hyb] at hBy3 hby hl1 ⊢
        have Hdl := Lib.hid hdl
        clear hw2 hBy hF3 hF2 hcap hge hw3 hdl hbb hyb
        go_wp2
        go_loopw [45] (fun cv wq => ∃ i : Nat, i ≤ p.length ∧ cv = .int .i64 i ∧ bb < wq.heap.size ∧ Bytes wq bb (xorAt p D i) ∧ Blk wq yb W 23 ∧ Fr [] w wq) (fun cv _ => p.length - (intOf cv).toNat)
        case atStart => exact ⟨0, by omega, rfl, hsz3, hBs, hBy3, hF4⟩
        case round =>
          obtain ⟨i, hi, rfl, hbq, hBq, hYq, hFq⟩ := hrel
          clear hcb hBs hBy3 hF4
          by_cases hip : i < p.length
          · have hx1 := hBq i (by rw [xorAt_length p D i Hdl.out]; exact hip)
            rw [xorAt_get p D i Hdl.out hip] at hx1
            have hnx := xorAt_next p D i Hdl.out hip
            have hdi : i < D.length := by have := Hdl.out; omega
            have hy1 : wr.cell? ⟨yb, i, none⟩ = some (.int .u8 (D[i].toNat : Int)) := hYq.c i _ (by rw [← HW.out]; unfold arr8; simp [hdi])
            obtain ⟨a, ha⟩ : ∃ a, p[i] = a := ⟨_, rfl⟩
            obtain ⟨b, hb⟩ : ∃ b, D[i] = b := ⟨_, rfl⟩
            rw [ha] at hx1 hnx
            rw [hb] at hy1 hnx
            obtain ⟨hx1, hx2⟩ := hx1
            have Hnx := Lib.hid hnx
            have i16 : (i : Int) < 16 := by omega
            have hx8 := u8x a b
            clear ha hb hnx
            go_wp2
            go_region
            all_goals go_wp2
            go_roundw
            case rel =>
              have hst := hBq.set i (a ^^^ b)
              rw [Hnx.out] at hst
              exact ⟨i + 1, by omega, by go_num, by simpa using hbq, hst.drew, (hYq.set_other _ (by simp; omega) _).drew, (hFq.setNew (by simp; omega) _).drew⟩
            case measure => (simp [intOf]) <;> omega
          · have hip2 : i = p.length := by omega
            rw [hip2, xorAt_end] at hBq
            obtain ⟨X, hX⟩ : ∃ X, xorL p D = X := ⟨_, rfl⟩
            rw [hX] at hBq hxl
            have hcv2 := hBq.str (P := Try.prog) cap Try.underlying46 Try.underlying5 Try.underlying9 p.length hxl
            have HX := Lib.hid hX
            have Hxl := Lib.hid hxl
            have hx16 : X.length ≤ 16 := by omega
            clear hX hxl hip2 hBq hYq
            go_wp2_with fail
            refine (nextUnmask p X _).mono ?_
            rintro e w4 ⟨rfl, rfl⟩
            go_wp2
            go_roundw
            case rel => exact ⟨k + 1, by have := HRl.out; omega, by rw [Hdr.out], by rw [Hkn.out], by rw [Hon.out, HX.out], hFq⟩
            case measure =>
              have := HRl.out
              simp [B_size]; omega
      · have h16' : (R.length : Int) < 16 := by omega
        have hpR : R = p := by have := Hpp.out; rw [this, List.take_of_length_le (by omega)]
        subst hpR
        have hT : R.drop 16 = [] := by rw [List.drop_of_length_le (by omega)]
        have HT := Lib.hid hT
        clear hT
        go_wp2_with fail
        refine (Hmd.out _).mono ?_
        rintro e w1 ⟨rfl, hF1⟩
        have hF2 := hF.trans hF1
        have ws : (arr8 D).size = 16 := by rw [arr8_size]; exact H16.out
        have wo : (arr8 D).all (·.oneCell') = true := arr8_one _
        obtain ⟨W, hW⟩ : ∃ W, arr8 D = W := ⟨_, rfl⟩
        rw [hW] at ws wo ⊢
        have HW := Lib.hid hW
        have Hws := Lib.hid ws
        have Hwo := Lib.hid wo
        have hl1 := hF2.size
        clear hW ws wo hF hF1 Hmd
        go_wp2_with (refine wpList_store_blk rfl 23 (.tmp 14) (.tmp 40) rfl w1.heap.size 23 z16 W ?k0 rfl rfl ?k1 ?k2 ?k3 ?_)
        case k0 => exact Blk.new _ _ _
        case k1 => rw [Hws.out]; rfl
        case k2 => rw [Hws.out]; exact info16b
        case k3 => exact Hwo.out
        intro w2 hw2 hBy
        have hF3 : Fr [] w w2 := by rw [hw2.out]; exact (hF2.alloc _).setCells _ _ _ (Or.inl hl1)
        have hby := hBy.lt
        have hcb := run_bytes_of_string (P := Try.prog) w2 9 46 5 (B R) Try.underlying9 Try.underlying46 Try.underlying5
        rw [B_size] at hcb
        obtain ⟨cap, hcap⟩ : ∃ c, grownCap w2 R.length 0 5 = c := ⟨_, rfl⟩
        have hge : R.length ≤ cap := hcap ▸ grownCap_ge w2 R.length 0 5
        rw [hcap] at hcb
        have hBs := bytes_of w2 R cap 5 ((bytesRow (B R) cap).size, (bytesRow (B R) cap).size + 1) (by simp [bytesRow, B])
        have hBy3 := (hBy.drew).alloc (.cells (bytesRow (B R) cap) 5 ((bytesRow (B R) cap).size, (bytesRow (B R) cap).size + 1))
        have hF4 := (hF3.drew).alloc (.cells (bytesRow (B R) cap) 5 ((bytesRow (B R) cap).size, (bytesRow (B R) cap).size + 1))
        obtain ⟨w3, hw3⟩ : ∃ V, w2.drew.alloc (.cells (bytesRow (B R) cap) 5 ((bytesRow (B R) cap).size, (bytesRow (B R) cap).size + 1)) = V := ⟨_, rfl⟩
        have hsz3 : w2.heap.size < w3.heap.size := by rw [← hw3]; simp
        rw [hw3] at hcb hBs hBy3 hF4
        rw [← xorAt_zero R D] at hBs
        have hl2 := hF3.size
        have hp16 : R.length ≤ 16 := by have := Hpl.out; omega
        have hdl : R.length ≤ D.length := by rw [H16.out]; exact hp16
        have hxl := xorL_length R D hdl
        obtain ⟨bb, hbb⟩ : ∃ b, w2.heap.size = b := ⟨_, rfl⟩
        obtain ⟨yb, hyb⟩ : ∃ b, w1.heap.size = b := ⟨_, rfl⟩
        rw [hbb] at hcb hBs hsz3 hl2 hby
        rw [hyb] at hBy3 hby hl1 ⊢
        have Hdl := Lib.hid hdl
        clear hw2 hBy hF3 hF2 hcap hge hw3 hdl hbb hyb
        go_wp2
        go_loopw [45] (fun cv wq => ∃ i : Nat, i ≤ R.length ∧ cv = .int .i64 i ∧ bb < wq.heap.size ∧ Bytes wq bb (xorAt R D i) ∧ Blk wq yb W 23 ∧ Fr [] w wq) (fun cv _ => R.length - (intOf cv).toNat)
        case atStart => exact ⟨0, by omega, rfl, hsz3, hBs, hBy3, hF4⟩
        case round =>
          obtain ⟨i, hi, rfl, hbq, hBq, hYq, hFq⟩ := hrel
          clear hcb hBs hBy3 hF4
          by_cases hip : i < R.length
          · have hx1 := hBq i (by rw [xorAt_length R D i Hdl.out]; exact hip)
            rw [xorAt_get R D i Hdl.out hip] at hx1
            have hnx := xorAt_next R D i Hdl.out hip
            have hdi : i < D.length := by have := Hdl.out; omega
            have hy1 : wr.cell? ⟨yb, i, none⟩ = some (.int .u8 (D[i].toNat : Int)) := hYq.c i _ (by rw [← HW.out]; unfold arr8; simp [hdi])
            obtain ⟨a, ha⟩ : ∃ a, R[i] = a := ⟨_, rfl⟩
            obtain ⟨b, hb⟩ : ∃ b, D[i] = b := ⟨_, rfl⟩
            rw [ha] at hx1 hnx
            rw [hb] at hy1 hnx
            obtain ⟨hx1, hx2⟩ := hx1
            have Hnx := Lib.hid hnx
            have i16 : (i : Int) < 16 := by omega
            have hx8 := u8x a b
            clear ha hb hnx
            go_wp2
            go_region
            all_goals go_wp2
            go_roundw
            case rel =>
              have hst := hBq.set i (a ^^^ b)
              rw [Hnx.out] at hst
              exact ⟨i + 1, by omega, by go_num, by simpa using hbq, hst.drew, (hYq.set_other _ (by simp; omega) _).drew, (hFq.setNew (by simp; omega) _).drew⟩
            case measure => (simp [intOf]) <;> omega
          · have hip2 : i = R.length := by omega
            rw [hip2, xorAt_end] at hBq
            obtain ⟨X, hX⟩ : ∃ X, xorL R D = X := ⟨_, rfl⟩
            rw [hX] at hBq hxl
            have hcv2 := hBq.str (P := Try.prog) cap Try.underlying46 Try.underlying5 Try.underlying9 R.length hxl
            have HX := Lib.hid hX
            have Hxl := Lib.hid hxl
            have hx16 : X.length ≤ 16 := by omega
            clear hX hxl hip2 hBq hYq
            go_wp2_with fail
            refine (nextUnmask R X _).mono ?_
            rintro e w4 ⟨rfl, rfl⟩
            go_wp2
            go_roundw
            case rel => exact ⟨k + 1, by have := HRl.out; omega, by rw [Hdr.out, HT.out]; rfl, by rw [Hkn.out], by rw [Hon.out, HX.out], hFq⟩
            case measure =>
              show (ByteArray.empty).size < (B R).size
              rw [B_size]; exact hR0
    · have hd : v.drop (16 * k) = [] := List.drop_of_length_le (by omega)
      have hm := maskL_at true s v K k (by omega)
      rw [hd]
      have Hm := Lib.hid hm
      clear hd hm hol hkl
      go_wp2
      go_ret
      exact ⟨by rw [Hm.out]; rfl, hF⟩
end Go.Proofs.Ytgeoldcddfmgnaa
