/- Frames read: the document's. -/
import Derived.Test.YtmdgilhjiooalaaEtherG
import Derived.Test.YtmdgilhjiooalaaRow
namespace Go.Proofs.Ytmdgilhjiooalaa
open Go.RowKit
set_option linter.unusedVariables false

def ethK (l : List UInt8) (t : Int) (d : List UInt8) (k : Nat) : Array Value := (((List.range 12).map fun j => Value.int .u8 ((if j % 6 < k then (l.getD j 0).toNat else 0 : Nat) : Int)) ++ [Value.int .i64 t, Value.string (B d)]).toArray
theorem ethK_size (l : List UInt8) (t : Int) (d : List UInt8) (k : Nat) : (ethK l t d k).size = 14 := by simp [ethK]
theorem ethK_zero (l : List UInt8) (t : Int) (d : List UInt8) : ethK l t d 0 = ethZ t d := by simp [ethK, ethZ, List.range_succ]
theorem ethK_six (b0 b1 b2 b3 b4 b5 b6 b7 b8 b9 b10 b11 : UInt8) (r : List UInt8) (t : Int) (d : List UInt8) :
    ethK (b0 :: b1 :: b2 :: b3 :: b4 :: b5 :: b6 :: b7 :: b8 :: b9 :: b10 :: b11 :: r) t d 6 = #[.int .u8 (b0.toNat : Int), .int .u8 (b1.toNat : Int), .int .u8 (b2.toNat : Int), .int .u8 (b3.toNat : Int), .int .u8 (b4.toNat : Int), .int .u8 (b5.toNat : Int), .int .u8 (b6.toNat : Int), .int .u8 (b7.toNat : Int), .int .u8 (b8.toNat : Int), .int .u8 (b9.toNat : Int), .int .u8 (b10.toNat : Int), .int .u8 (b11.toNat : Int), .int .i64 t, .string (B d)] := by
  simp [ethK, List.range_succ]
theorem infoEth : (Try.prog.info? 43).map (·.size) = some 14 := by kernel_rfl
theorem ethK_get (l : List UInt8) (t : Int) (d : List UInt8) (k j : Nat) (hj : j < 12) : (ethK l t d k)[j]? = some (.int .u8 ((if j % 6 < k then (l.getD j 0).toNat else 0 : Nat) : Int)) := by
  unfold ethK
  rw [List.getElem?_toArray, List.getElem?_append_left (by simp [hj]), List.getElem?_map, List.getElem?_range hj]
  rfl
theorem ethK_next (l : List UInt8) (t : Int) (d : List UInt8) (k : Nat) (hk : k < 6) :
    ((ethK l t d k).setIfInBounds k (.int .u8 ((l.getD k 0).toNat : Int))).setIfInBounds (6 + k) (.int .u8 ((l.getD (6 + k) 0).toNat : Int)) = ethK l t d (k + 1) := by
  apply Array.ext_getElem?
  intro j
  rw [Array.getElem?_setIfInBounds, Array.getElem?_setIfInBounds]
  by_cases h : 6 + k = j
  · subst h
    rw [if_pos rfl, if_pos (by simp [ethK_size]; omega), ethK_get _ _ _ _ _ (by omega), if_pos (by omega)]
  · rw [if_neg h]
    by_cases h' : k = j
    · subst h'
      rw [if_pos rfl, if_pos (by rw [ethK_size]; omega), ethK_get _ _ _ _ _ (by omega), if_pos (by omega)]
    · rw [if_neg h']
      by_cases hj : j < 12
      · rw [ethK_get _ _ _ _ _ hj, ethK_get _ _ _ _ _ hj]
        have e : (j % 6 < k + 1) = (j % 6 < k) := by apply propext; omega
        simp only [e]
      · unfold ethK
        rw [List.getElem?_toArray, List.getElem?_toArray, List.getElem?_append_right (by simp; omega), List.getElem?_append_right (by simp; omega)]
        simp
set_option maxHeartbeats 1000000 in
theorem rgetether_ok (l : List UInt8) (w : World) (hl : 14 ≤ l.length) (hl' : l.length ≤ 1514) (b0 b1 b2 b3 b4 b5 b6 b7 b8 b9 b10 b11 : UInt8) (r : List UInt8) (hL : Hid (l = b0 :: b1 :: b2 :: b3 :: b4 :: b5 :: b6 :: b7 :: b8 :: b9 :: b10 :: b11 :: r)) :
    Calls Try.prog 38 #[.string (B l)] w fun e w' => e = .returned (.tuple #[.agg #[.int .u8 (b0.toNat : Int), .int .u8 (b1.toNat : Int), .int .u8 (b2.toNat : Int), .int .u8 (b3.toNat : Int), .int .u8 (b4.toNat : Int), .int .u8 (b5.toNat : Int), .int .u8 (b6.toNat : Int), .int .u8 (b7.toNat : Int), .int .u8 (b8.toNat : Int), .int .u8 (b9.toNat : Int), .int .u8 (b10.toNat : Int), .int .u8 (b11.toNat : Int), .int .i64 (getV l 12 2), .string (B (l.drop 14))], .int .i64 0]) ∧ Fr [] w w' := by
  have h1 : ¬ (l.length : Int) < 14 := by omega
  have h2 : ¬ (1514 : Int) < l.length := by omega
  have i14 : (14 : Int) ≤ l.length := by omega
  have hd : (l.drop 14).take (l.length - 14) = l.drop 14 := List.take_of_length_le (by simp)
  go_enter Try.func38, Try.ntmps38
  go_upto_region 5 with fail
  go_cut [4] (fun s4 wx => ∃ g, s4 = .pointer (some ⟨g, 0, none⟩) ∧ Blk wx g (ethK l (getV l 12 2) (l.drop 14) 0) 43 ∧ Blk wx w.heap.size #[.int .u8 0, .int .u8 0, .int .u8 0, .int .u8 0, .int .u8 0, .int .u8 0, .int .u8 0, .int .u8 0, .int .u8 0, .int .u8 0, .int .u8 0, .int .u8 0, .int .i64 0, .string ⟨#[]⟩] 43 ∧ w.heap.size < g ∧ Fr [] w wx)
  case first =>
    go_region_with (go_at_call 54; refine (num_q l 12 _ (by omega) (by omega) (by omega)).mono ?_; rintro e w5 ⟨rfl, hF5⟩; (first | (have hA0 := hF5; with_reducible change Fr [] (World.drew (World.alloc (World.alloc _ _) _)) _ at hA0; clear hA0; have hA := hF5.blk (zn _).drew (by simp)) | skip); (try simp only [hsz, hdr] at hA); first | (have hk := fc14 hA) | skip)
    all_goals go_wp2_with fail
    · go_meet
      have z5 := hF5.size
      rw [hdr, hsz] at z5
      rw [ethK_zero]
      exact ⟨_, rfl, Blk.new _ _ _, (hF5.blk (zn w).drew (by simp)).alloc _, by omega, (((Fr.refl [] w).alloc _).drew.trans hF5).alloc _⟩
    · go_meet
      rw [ethK_zero]
      exact ⟨_, rfl, bl14 hA _ _ _ _ _ _ _ _ _ _ _ _ _ _, ot14 (hF5.blk ((zn w).alloc _).drew (by simp)) (by omega) _ _ _ _ _ _ _ _ _ _ _ _ _ _, by omega, fr14 ((((Fr.refl [] w).alloc _).alloc _).drew.trans hF5) (by omega) _ _ _ _ _ _ _ _ _ _ _ _ _ _⟩
  case rest =>
    obtain ⟨g, rfl, hB, hB0, hg, hF⟩ := hcut
    go_wp2_with fail
    go_loopw [5] (fun cv wr => ∃ k : Nat, k ≤ 6 ∧ cv = .int .i64 k ∧ Blk wr g (ethK l (getV l 12 2) (l.drop 14) k) 43 ∧ Blk wr w.heap.size #[.int .u8 0, .int .u8 0, .int .u8 0, .int .u8 0, .int .u8 0, .int .u8 0, .int .u8 0, .int .u8 0, .int .u8 0, .int .u8 0, .int .u8 0, .int .u8 0, .int .i64 0, .string ⟨#[]⟩] 43 ∧ Fr [] w wr) (fun cv _ => 6 - (intOf cv).toNat)
    case atStart => exact ⟨0, by omega, rfl, hB, hB0, hF⟩
    case round =>
      clear hB hB0 hF
      obtain ⟨k, hk, rfl, hB, hB0, hF⟩ := hrel
      by_cases hlt : k < 6
      · have c0 := hB.c k _ (ethK_get l (getV l 12 2) (l.drop 14) k k (by omega))
        have c1 := hB.c (6 + k) _ (ethK_get l (getV l 12 2) (l.drop 14) k (6 + k) (by omega))
        have f0 := hB.fz k
        have f1 := hB.fz (6 + k)
        obtain ⟨v0, hv0⟩ : ∃ v, Value.int .u8 ((if k % 6 < k then (l.getD k 0).toNat else 0 : Nat) : Int) = v := ⟨_, rfl⟩
        obtain ⟨v1, hv1⟩ : ∃ v, Value.int .u8 ((if (6 + k) % 6 < k then (l.getD (6 + k) 0).toNat else 0 : Nat) : Int) = v := ⟨_, rfl⟩
        rw [hv0] at c0
        rw [hv1] at c1
        clear hv0 hv1
        have i1 : (k : Int) < l.length := by omega
        have i2 : 6 + (k : Int) < l.length := by omega
        have i3 : IntKind.i64.wrap (6 + (k : Int)) = 6 + (k : Int) := IntWalk.i64_in _ (by omega)
        have i4 : (0 : Int) ≤ 6 + (k : Int) := by omega
        have i5 : (6 + (k : Int)).toNat = 6 + k := by omega
        go_wp2
        go_region
        all_goals go_wp2
        go_roundw
        case rel =>
          have e0 : l[k] = l.getD k 0 := (getD_at l k (by omega)).symm
          have e1 : l[6 + k] = l.getD (6 + k) 0 := (getD_at l (6 + k) (by omega)).symm
          rw [e0, e1]
          exact ⟨k + 1, by omega, by go_num, by have := (hB.set k (.int .u8 ((l.getD k 0).toNat : Int))).set (6 + k) (.int .u8 ((l.getD (6 + k) 0).toNat : Int)); rw [ethK_next _ _ _ _ hlt] at this; exact this.drew,
            ((hB0.set_other _ (by simp; omega) _).set_other _ (by simp; omega) _).drew, ((hF.setNew (by simp; omega) _).setNew (by simp; omega) _).drew⟩
        case measure => (simp [intOf]) <;> omega
      · have h6 : k = 6 := by omega
        have e6 : ethK l (getV l 12 2) (l.drop 14) 6 = #[.int .u8 (b0.toNat : Int), .int .u8 (b1.toNat : Int), .int .u8 (b2.toNat : Int), .int .u8 (b3.toNat : Int), .int .u8 (b4.toNat : Int), .int .u8 (b5.toNat : Int), .int .u8 (b6.toNat : Int), .int .u8 (b7.toNat : Int), .int .u8 (b8.toNat : Int), .int .u8 (b9.toNat : Int), .int .u8 (b10.toNat : Int), .int .u8 (b11.toNat : Int), .int .i64 (getV l 12 2), .string (B (l.drop 14))] := by
          generalize getV l 12 2 = t
          generalize l.drop 14 = d
          rw [hL.out]
          exact ethK_six b0 b1 b2 b3 b4 b5 b6 b7 b8 b9 b10 b11 r t d
        rw [h6, e6] at hB
        have ws : (#[.int .u8 (b0.toNat : Int), .int .u8 (b1.toNat : Int), .int .u8 (b2.toNat : Int), .int .u8 (b3.toNat : Int), .int .u8 (b4.toNat : Int), .int .u8 (b5.toNat : Int), .int .u8 (b6.toNat : Int), .int .u8 (b7.toNat : Int), .int .u8 (b8.toNat : Int), .int .u8 (b9.toNat : Int), .int .u8 (b10.toNat : Int), .int .u8 (b11.toNat : Int), .int .i64 (getV l 12 2), .string (B (l.drop 14))] : Array Value).size = 14 := rfl
        have w1 : (#[.int .u8 (b0.toNat : Int), .int .u8 (b1.toNat : Int), .int .u8 (b2.toNat : Int), .int .u8 (b3.toNat : Int), .int .u8 (b4.toNat : Int), .int .u8 (b5.toNat : Int), .int .u8 (b6.toNat : Int), .int .u8 (b7.toNat : Int), .int .u8 (b8.toNat : Int), .int .u8 (b9.toNat : Int), .int .u8 (b10.toNat : Int), .int .u8 (b11.toNat : Int), .int .i64 (getV l 12 2), .string (B (l.drop 14))] : Array Value).all (·.oneCell') = true := by simp [Value.oneCell']
        obtain ⟨W, hW⟩ : ∃ W : Array Value, #[.int .u8 (b0.toNat : Int), .int .u8 (b1.toNat : Int), .int .u8 (b2.toNat : Int), .int .u8 (b3.toNat : Int), .int .u8 (b4.toNat : Int), .int .u8 (b5.toNat : Int), .int .u8 (b6.toNat : Int), .int .u8 (b7.toNat : Int), .int .u8 (b8.toNat : Int), .int .u8 (b9.toNat : Int), .int .u8 (b10.toNat : Int), .int .u8 (b11.toNat : Int), .int .i64 (getV l 12 2), .string (B (l.drop 14))] = W := ⟨_, rfl⟩
        obtain ⟨Z, hZ⟩ : ∃ Z : Array Value, #[.int .u8 0, .int .u8 0, .int .u8 0, .int .u8 0, .int .u8 0, .int .u8 0, .int .u8 0, .int .u8 0, .int .u8 0, .int .u8 0, .int .u8 0, .int .u8 0, .int .i64 0, .string ⟨#[]⟩] = Z := ⟨_, rfl⟩
        have zs : Z.size = 14 := by rw [← hZ]; rfl
        rw [hW] at hB ws w1
        rw [hZ] at hB0
        have HW := Lib.hid hW
        clear hW hZ h6 e6
        go_wp2_with (first | (refine wpList_load_blk rfl 43 (.tmp 4) rfl g 43 W _ hB rfl Try.underlying43 rfl (by rw [ws]; exact infoEth) ?_) | (refine wpList_store_blk rfl 43 (.tmp 2) (.tmp 36) rfl w.heap.size 43 Z W hB0 rfl rfl (by rw [ws, zs]) (by rw [ws]; exact infoEth) w1 ?_; intro w' hw' hB'))
        refine ret_cell2 2 3 43 rfl w.heap.size 43 W _ hB' rfl Try.underlying43 rfl (by rw [ws]; exact infoEth) rfl ⟨by rw [HW.out]; rfl, ?_⟩
        rw [hw'.out]
        exact hF.setCells _ _ _ (Or.inl (Nat.le_refl _))
end Go.Proofs.Ytmdgilhjiooalaa
