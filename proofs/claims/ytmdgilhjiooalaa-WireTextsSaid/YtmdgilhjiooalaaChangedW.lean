import Derived.Test.YtmdgilhjiooalaaChanged
namespace Go.Proofs.Ytmdgilhjiooalaa
open Go.RowKit
set_option linter.unusedVariables false

theorem cell_set_same {w : World} {b k : Nat} {u v : Value} (h : w.cell? ⟨b, k, none⟩ = some u) : (w.setCell ⟨b, k, none⟩ v).cell? ⟨b, k, none⟩ = some v :=
  World.cell?_setCell_same w _ _ h
theorem cell_set_other {w : World} {b k j : Nat} {v : Value} (h : ¬ j = k) : (w.setCell ⟨b, k, none⟩ v).cell? ⟨b, j, none⟩ = w.cell? ⟨b, j, none⟩ :=
  World.cell?_setCell_other w _ _ _ (by intro e; simp at e <;> omega)

set_option maxHeartbeats 4000000 in
theorem wireChanged_walk (w : World) (s : ByteArray) (hs : s.size ≤ 140737488351232) (p : Int) (p0 : -9223372036854775808 ≤ p) (p1 : p ≤ 9223372036854775807)
    (d : Int) (d0 : -9223372036854775808 ≤ d) (d1 : d ≤ 9223372036854775807) :
    Calls Try.prog 7 #[.string s, .int .i64 p, .int .i64 d] w fun e w' => e = .returned (.bool true) ∧ Below w.heap.size w w' := by
  obtain ⟨l, rfl⟩ : ∃ l, s = B l := ⟨_, B_of s⟩
  rw [B_size] at hs
  by_cases hl : 3000 < l.length
  · have hl' : (3000 : Int) < l.length := by omega
    clear hl
    go_enter Try.func7, Try.ntmps7
    go_wp2_with fail
    refine (alive1 _).mono ?_
    rintro e w1 ⟨rfl, hF⟩
    go_wp2
    go_ret
    exact ⟨rfl, hF.below (Nat.le_refl _) (by simp)⟩
  · have hl' : ¬ (3000 : Int) < l.length := by omega
    by_cases hd : d % 256 = 0
    · have hb : (d % 256 == 0) = true := by rw [beq_iff_eq]; exact hd
      clear hl hd
      go_enter Try.func7, Try.ntmps7
      go_wp2_with fail
      refine (alive1 _).mono ?_
      rintro e w1 ⟨rfl, hF⟩
      go_wp2
      go_ret
      exact ⟨rfl, hF.below (Nat.le_refl _) (by simp)⟩
    · have hb : (d % 256 == 0) = false := by rw [beq_eq_false_iff_ne]; exact hd
      clear hl hd
      go_enter Try.func7, Try.ntmps7
      go_wp2_with fail
      refine (seal_any l _ (by omega)).mono ?_
      rintro e w1 ⟨rfl, hF1⟩
      obtain ⟨S, hS⟩ : ∃ S, sealL l = S := ⟨_, rfl⟩
      have hlen : S.length = l.length + 2 := by rw [← hS]; exact sealL_length l
      have hcv := run_bytes_of_string (P := Try.prog) w1 9 35 5 (B S) Try.underlying9 Try.underlying35 Try.underlying5
      rw [B_size] at hcv
      obtain ⟨cap, hcap⟩ : ∃ c, grownCap w1 S.length 0 5 = c := ⟨_, rfl⟩
      have hge : S.length ≤ cap := hcap ▸ grownCap_ge w1 S.length 0 5
      rw [hcap] at hcv
      obtain ⟨W, hW⟩ : ∃ W, w1.drew.alloc (.cells (bytesRow (B S) cap) 5 ((bytesRow (B S) cap).size, (bytesRow (B S) cap).size + 1)) = W := ⟨_, rfl⟩
      rw [hW] at hcv
      obtain ⟨hcells, hF2⟩ := bytes_new w1 S cap 5 _ W (by simp [bytesRow, B]) hW.symm
      have hne : ((S.length : Int) != (l.length : Int) + 2) = false := by rw [bne_eq_false_iff_eq]; omega
      have hn0 : (0 : Int) < S.length := by omega
      have hn1 : (S.length : Int) ≤ 3002 := by omega
      have hsz : w1.heap.size < W.heap.size := by rw [← hW]; simp
      have hw1 : w.heap.size ≤ w1.heap.size := hF1.size
      rw [hS]
      have HS := Lib.hid hS
      have Hlen := Lib.hid hlen
      obtain ⟨q, hq⟩ : ∃ q, p.tmod (S.length : Int) = q := ⟨_, rfl⟩
      have q0 : -(S.length : Int) < q := by rw [← hq]; exact Int.lt_tmod_of_pos _ hn0
      have q1 : q < (S.length : Int) := by rw [← hq]; exact Int.tmod_lt_of_pos _ hn0
      clear hS hlen hcap hW hge
      by_cases hneg : q < 0
      · obtain ⟨k, hk⟩ : ∃ k : Nat, q + (S.length : Int) = k := ⟨(q + S.length).toNat, by omega⟩
        have hkS : k < S.length := by omega
        obtain ⟨y, hy⟩ : ∃ y : UInt8, y = S[k] ^^^ UInt8.ofNat (d % 256).toNat := ⟨_, rfl⟩
        have hx : bits .xor .u8 (S[k].toNat : Int) (d % 256) = (y.toNat : Int) := by
          have := byte_bd S[k]
          rw [u8_xor _ _ (by omega) this (by omega) (by omega), hy, UInt8.toNat_xor]
          have e : (UInt8.ofNat (d % 256).toNat).toNat = (d % 256).toNat := by have := u8_toNat (d % 256) (by omega) (by omega); omega
          rw [e]; rfl
        have hyne : y ≠ S[k] := by
          intro e
          rw [e] at hx
          have hk := byte_bd S[k]
          rw [u8_xor _ _ (by omega) hk (by omega) (by omega)] at hx
          have h0 : S[k].toNat ^^^ (d % 256).toNat = S[k].toNat ^^^ 0 := by rw [Nat.xor_zero]; simpa using Int.ofNat.inj hx
          have := xcanL h0
          have hd' : ¬ d % 256 = 0 := by simpa using hb
          omega
        have hun : unsE (S.set k y) = 6 := by
          have h0 := uns_set l k (by have := Hlen.out; omega) y
          simp only [HS.out] at h0
          exact h0 hyne
        have hunL : unsL (S.set k y) = [] := by unfold unsL; rw [hun]; rfl
        obtain ⟨hck, hfk⟩ := hcells k hkS
        have hcv2 := run_convert_bytes_back (P := Try.prog) (W.setCell ⟨w1.heap.size, k, none⟩ (.int .u8 (y.toNat : Int))) 35 9 5 ⟨w1.heap.size, 0, none⟩ cap (S.set k y) Try.underlying35 Try.underlying5 Try.underlying9
          (fun j hj => by
            have hj' : j < S.length := by simpa using hj
            have hp : (⟨w1.heap.size, 0, none⟩ : Addr).add j = ⟨w1.heap.size, j, none⟩ := by unfold Addr.add; split <;> simp_all
            rw [hp]
            by_cases hjk : j = k
            · subst hjk
              rw [cell_set_same hck]; simp
            · rw [cell_set_other hjk, (hcells j hj').1, List.getElem_set_ne (fun e => hjk e.symm)])
        rw [List.length_set] at hcv2
        have Hun := Lib.hid hun
        have HunL := Lib.hid hunL
        have hF3 : Fr [] w (W.setCell ⟨w1.heap.size, k, none⟩ (.int .u8 (y.toNat : Int))) := (hF1.trans hF2).setNew hw1 _
        have hsl : (S.set k y).length ≤ 1000000 := by rw [List.length_set]; omega
        obtain ⟨f0, hf0⟩ : ∃ f : Int, (fcs l : Int) = f := ⟨_, rfl⟩
        have f1 : 0 ≤ f0 := by omega
        have f2 : f0 ≤ 65535 := by have := fcs_le l; omega
        have Hf0 := Lib.hid hf0
        clear hy hun hunL hcells hyne HS hF1 hF2 hf0
        go_wp2_with fail
        refine (unseal_any (S.set k y) _ hsl).mono ?_
        rw [Hun.out, HunL.out]
        rintro e w3 ⟨rfl, hF4⟩
        go_wp2_with fail
        refine (alive1 _).mono ?_
        rintro e w4 ⟨rfl, hF5⟩
        go_wp2_with fail
        refine (fcs_any l _ (by omega)).mono ?_
        rw [Hf0.out]
        rintro e w5 ⟨rfl, rfl⟩
        go_wp2_with fail
        refine (fcs_any l _ (by omega)).mono ?_
        rw [Hf0.out]
        rintro e w5 ⟨rfl, rfl⟩
        go_wp2
        go_ret
        exact ⟨rfl, ((hF3.trans hF4).trans hF5).below (Nat.le_refl _) (by simp)⟩
      · obtain ⟨k, rfl⟩ := Int.eq_ofNat_of_zero_le (show 0 ≤ q by omega)
        have hkS : k < S.length := by omega
        obtain ⟨y, hy⟩ : ∃ y : UInt8, y = S[k] ^^^ UInt8.ofNat (d % 256).toNat := ⟨_, rfl⟩
        have hx : bits .xor .u8 (S[k].toNat : Int) (d % 256) = (y.toNat : Int) := by
          have := byte_bd S[k]
          rw [u8_xor _ _ (by omega) this (by omega) (by omega), hy, UInt8.toNat_xor]
          have e : (UInt8.ofNat (d % 256).toNat).toNat = (d % 256).toNat := by have := u8_toNat (d % 256) (by omega) (by omega); omega
          rw [e]; rfl
        have hyne : y ≠ S[k] := by
          intro e
          rw [e] at hx
          have hk := byte_bd S[k]
          rw [u8_xor _ _ (by omega) hk (by omega) (by omega)] at hx
          have h0 : S[k].toNat ^^^ (d % 256).toNat = S[k].toNat ^^^ 0 := by rw [Nat.xor_zero]; simpa using Int.ofNat.inj hx
          have := xcanL h0
          have hd' : ¬ d % 256 = 0 := by simpa using hb
          omega
        have hun : unsE (S.set k y) = 6 := by
          have h0 := uns_set l k (by have := Hlen.out; omega) y
          simp only [HS.out] at h0
          exact h0 hyne
        have hunL : unsL (S.set k y) = [] := by unfold unsL; rw [hun]; rfl
        obtain ⟨hck, hfk⟩ := hcells k hkS
        have hcv2 := run_convert_bytes_back (P := Try.prog) (W.setCell ⟨w1.heap.size, k, none⟩ (.int .u8 (y.toNat : Int))) 35 9 5 ⟨w1.heap.size, 0, none⟩ cap (S.set k y) Try.underlying35 Try.underlying5 Try.underlying9
          (fun j hj => by
            have hj' : j < S.length := by simpa using hj
            have hp : (⟨w1.heap.size, 0, none⟩ : Addr).add j = ⟨w1.heap.size, j, none⟩ := by unfold Addr.add; split <;> simp_all
            rw [hp]
            by_cases hjk : j = k
            · subst hjk
              rw [cell_set_same hck]; simp
            · rw [cell_set_other hjk, (hcells j hj').1, List.getElem_set_ne (fun e => hjk e.symm)])
        rw [List.length_set] at hcv2
        have Hun := Lib.hid hun
        have HunL := Lib.hid hunL
        have hF3 : Fr [] w (W.setCell ⟨w1.heap.size, k, none⟩ (.int .u8 (y.toNat : Int))) := (hF1.trans hF2).setNew hw1 _
        have hsl : (S.set k y).length ≤ 1000000 := by rw [List.length_set]; omega
        obtain ⟨f0, hf0⟩ : ∃ f : Int, (fcs l : Int) = f := ⟨_, rfl⟩
        have f1 : 0 ≤ f0 := by omega
        have f2 : f0 ≤ 65535 := by have := fcs_le l; omega
        have Hf0 := Lib.hid hf0
        clear hy hun hunL hcells hyne HS hF1 hF2 hf0
        go_wp2_with fail
        refine (unseal_any (S.set k y) _ hsl).mono ?_
        rw [Hun.out, HunL.out]
        rintro e w3 ⟨rfl, hF4⟩
        go_wp2_with fail
        refine (alive1 _).mono ?_
        rintro e w4 ⟨rfl, hF5⟩
        go_wp2_with fail
        refine (fcs_any l _ (by omega)).mono ?_
        rw [Hf0.out]
        rintro e w5 ⟨rfl, rfl⟩
        go_wp2_with fail
        refine (fcs_any l _ (by omega)).mono ?_
        rw [Hf0.out]
        rintro e w5 ⟨rfl, rfl⟩
        go_wp2
        go_ret
        exact ⟨rfl, ((hF3.trans hF4).trans hF5).below (Nat.le_refl _) (by simp)⟩
end Go.Proofs.Ytmdgilhjiooalaa
