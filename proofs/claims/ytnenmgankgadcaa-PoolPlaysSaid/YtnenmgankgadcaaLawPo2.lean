/- PoolLeast, walked. -/
import Derived.Test.YtnenmgankgadcaaLawPo1
import Derived.Test.YtnenmgankgadcaaEqAd
namespace Go.Proofs.Ytnenmgankgadcaa
open Go.RowKit Go.Maps
set_option linter.unusedVariables false

theorem and255 (n : Int) : bits .and .i64 n 255 = n % 256 := by
  show IntKind.i64.wrap ((BitVec.ofInt 64 n &&& BitVec.ofInt 64 255).toNat : Int) = _
  have h7 : (BitVec.ofInt 64 255).toNat = 2 ^ 8 - 1 := by decide
  rw [BitVec.toNat_and, h7, Nat.and_two_pow_sub_one_eq_mod, BitVec.toNat_ofInt, IntKind.wrap_i64]
  simp only [Nat.reducePow]
  omega
/-- the first i of n places taken, each by its own number -/
def fillS (n i : Nat) : List (Option Ky) := (List.range n).map fun j => if j < i then some (1, (j : Int)) else none
theorem fillS_length (n i : Nat) : (fillS n i).length = n := by simp [fillS]
theorem fillS_at (n i j : Nat) (hj : j < n) : (fillS n i)[j]? = some (if j < i then some (1, (j : Int)) else none) := by
  unfold fillS
  rw [List.getElem?_map, List.getElem?_range hj]; rfl
theorem fillS_zero (n : Nat) : fillS n 0 = List.replicate n none := by
  apply List.ext_getElem?
  intro j
  by_cases hj : j < n
  · rw [fillS_at n 0 j hj, List.getElem?_replicate, if_pos hj, if_neg (by omega)]
  · rw [List.getElem?_eq_none (by rw [fillS_length]; omega), List.getElem?_eq_none (by simp; omega)]
theorem fillS_set (n i : Nat) (hi : i < n) : (fillS n i).set i (some (1, (i : Int))) = fillS n (i + 1) := by
  apply List.ext_getElem?
  intro j
  rw [List.getElem?_set]
  by_cases hij : i = j
  · subst hij
    rw [if_pos rfl, if_pos (by rw [fillS_length]; exact hi), fillS_at n (i + 1) i hi, if_pos (by omega)]
  · rw [if_neg hij]
    by_cases hj : j < n
    · rw [fillS_at n i j hj, fillS_at n (i + 1) j hj]
      congr 1
      by_cases h : j < i
      · rw [if_pos h, if_pos (by omega)]
      · rw [if_neg h, if_neg (by omega)]
    · rw [List.getElem?_eq_none (by rw [fillS_length]; omega), List.getElem?_eq_none (by rw [fillS_length]; omega)]
theorem fillS_notIn (n i : Nat) : NotIn (fillS n i) (1, (i : Int)) := by
  intro h
  unfold fillS at h
  obtain ⟨j, hj, he⟩ := List.mem_map.1 h
  split at he
  · rename_i hji
    injection he with he
    injection he with _ he
    omega
  · cases he
theorem fillS_taken (n i : Nat) (hi : i ≤ n) : Taken (fillS n i) i := fun j hj => ⟨_, by rw [fillS_at n i j (by omega), if_pos hj]⟩
/-- what the second loop keeps -/
structure Lst (n : Nat) (s : List (Option Ky)) (least : Nat) : Prop where
  len : s.length = n
  le : least ≤ n
  low : ∀ j : Nat, j < least → s[j]? = some (some (1, (j : Int)))
  at_ : least < n → s[least]? = some none
  own : ∀ (j : Nat) (k : Ky), s[j]? = some (some k) → k = (1, (j : Int))
theorem lst_start (n : Nat) : Lst n (fillS n n) n := ⟨fillS_length n n, Nat.le_refl _, fun j hj => by rw [fillS_at n n j hj, if_pos hj], fun h => by omega, fun j k h => by
  have hj := at_lt h
  rw [fillS_length] at hj
  rw [fillS_at n n j hj, if_pos hj] at h
  injection h with h; injection h with h; exact h.symm⟩
theorem Lst.give {n : Nat} {s : List (Option Ky)} {least k : Nat} (h : Lst n s least) (hk : s[k]? = some (some (1, (k : Int)))) : Lst n (s.set k none) (min least k) := by
  have hkn := at_lt hk
  refine ⟨by rw [List.length_set]; exact h.len, by have := h.le; omega, fun j hj => ?_, fun hl => ?_, fun j k' hj => ?_⟩
  · rw [List.getElem?_set, if_neg (by omega)]
    exact h.low j (by omega)
  · by_cases hlk : least ≤ k
    · have hne : least ≠ k := fun e => by
        subst e
        by_cases hln : least < n
        · rw [h.at_ hln] at hk; cases hk
        · have := h.len; omega
      rw [show min least k = least by omega, List.getElem?_set, if_neg (by omega)]
      exact h.at_ (by omega)
    · rw [show min least k = k by omega, List.getElem?_set, if_pos rfl, if_pos hkn]
  · rw [List.getElem?_set] at hj
    split at hj
    · first | cases hj | (split at hj <;> cases hj)
    · exact h.own j k' hj
theorem Lst.cases {n : Nat} {s : List (Option Ky)} {least : Nat} (h : Lst n s least) (k : Nat) : s[k]? = some (some (1, (k : Int))) ∨ NotIn s (1, (k : Int)) := by
  by_cases hin : some (1, (k : Int)) ∈ s
  · obtain ⟨j, hj, he⟩ := List.getElem_of_mem hin
    have h1 : s[j]? = some (some (1, (k : Int))) := by rw [List.getElem?_eq_getElem hj, he]
    have h2 := h.own j _ h1
    injection h2 with _ h2
    have : k = j := by omega
    subst this
    exact Or.inl h1
  · exact Or.inr hin
theorem Lst.not2 {n : Nat} {s : List (Option Ky)} {least : Nat} (h : Lst n s least) : NotIn s (2, 1) := fun hin => by
  obtain ⟨j, hj, he⟩ := List.getElem_of_mem hin
  have h2 := h.own j _ (by rw [List.getElem?_eq_getElem hj, he])
  injection h2 with h2 _
  omega
theorem Lst.taken {n : Nat} {s : List (Option Ky)} {least : Nat} (h : Lst n s least) : Taken s least := fun j hj => ⟨_, h.low j hj⟩
/-- the cells that a place's comparison reads -/
theorem adS_step {w w1 w2 : World} {q r : Nat} {x y : Ad} (h : ((w1.cell? ⟨q, 0, none⟩ = some (.int .u8 x.1) ∧ w1.cell? ⟨q, 1, none⟩ = some (.int .u8 x.2.1) ∧ w1.cell? ⟨q, 2, none⟩ = some (.int .u8 x.2.2.1) ∧ w1.cell? ⟨q, 3, none⟩ = some (.int .u8 x.2.2.2)) ∧
    (w1.cell? ⟨r, 0, none⟩ = some (.int .u8 y.1) ∧ w1.cell? ⟨r, 1, none⟩ = some (.int .u8 y.2.1) ∧ w1.cell? ⟨r, 2, none⟩ = some (.int .u8 y.2.2.1) ∧ w1.cell? ⟨r, 3, none⟩ = some (.int .u8 y.2.2.2))) ∧ Blk w1 q (adC x) 23 ∧ Blk w1 r (adC y) 23 ∧ Fr [] w w1) (hF : Fr [] w1 w2) :
    ((w2.cell? ⟨q, 0, none⟩ = some (.int .u8 x.1) ∧ w2.cell? ⟨q, 1, none⟩ = some (.int .u8 x.2.1) ∧ w2.cell? ⟨q, 2, none⟩ = some (.int .u8 x.2.2.1) ∧ w2.cell? ⟨q, 3, none⟩ = some (.int .u8 x.2.2.2)) ∧
    (w2.cell? ⟨r, 0, none⟩ = some (.int .u8 y.1) ∧ w2.cell? ⟨r, 1, none⟩ = some (.int .u8 y.2.1) ∧ w2.cell? ⟨r, 2, none⟩ = some (.int .u8 y.2.2.1) ∧ w2.cell? ⟨r, 3, none⟩ = some (.int .u8 y.2.2.2))) ∧ Blk w2 q (adC x) 23 ∧ Blk w2 r (adC y) 23 ∧ Fr [] w w2 := by
  have h1 := hF.blk h.2.1 (by simp)
  have h2 := hF.blk h.2.2.1 (by simp)
  exact ⟨⟨⟨h1.c 0 _ rfl, h1.c 1 _ rfl, h1.c 2 _ rfl, h1.c 3 _ rfl⟩, ⟨h2.c 0 _ rfl, h2.c 1 _ rfl, h2.c 2 _ rfl, h2.c 3 _ rfl⟩⟩, h1, h2, h.2.2.2.trans hF⟩
set_option maxRecDepth 100000 in
set_option maxHeartbeats 8000000 in
theorem least_small (w : World) (n : Nat) (a : Option Addr) (len cap : Nat) (l : List Int) (hl : IsInts w a len cap l) (n1 : 1 ≤ n) (n2 : n ≤ 256) (l50 : len ≤ 50) :
    Calls Try.prog 4 #[.int .i64 n, .slice a len cap] w fun e w' => e = .returned (.bool true) ∧ Below w.heap.size w w' := by
  have P1 := Lib.hid fun (W : World) => plnew_ok (w := W) (10, 0, 0, 0) n (by unfold AdOk u8; decide) n1 n2 (by show (167772160 : Int) + n ≤ _; omega)
  have AD := Lib.hid fun (j : Nat) (hj : j ≤ 256) (W : World) => add_any 10 0 0 0 (j : Int) W (by unfold u8; decide) (by unfold u8; decide) (by unfold u8; decide) (by unfold u8; decide) (by omega) (by omega)
  have HL := Lib.hid hl
  have h50 : ¬ (50 : Int) < len := by omega
  clear hl
  go_enter Try.func4, Try.ntmps4
  go_wp2_with fail
  refine (P1.out _).mono ?_
  rintro e w1 ⟨g, bh, bw, rfl, hg, hbh, hbw, hP, hF1⟩
  have hsz : (w.alloc (.cells #[.int .u8 10, .int .u8 0, .int .u8 0, .int .u8 0] 23 (0, 0))).heap.size = w.heap.size + 1 := by simp
  have hQ1 := hF1.blk (Blk.new w #[.int .u8 10, .int .u8 0, .int .u8 0, .int .u8 0] 23) (by simp)
  have hF2 := ((Fr.refl [] w).alloc (.cells #[.int .u8 10, .int .u8 0, .int .u8 0, .int .u8 0] 23 (0, 0))).trans hF1
  have HX := Lib.hid fun (y : Nat) (hy : y ∈ [bh, bw]) => show y ∈ ([] : List Nat) ∨ w.heap.size ≤ y by simp at hy; right; omega
  obtain ⟨q5, hq5⟩ : ∃ q, w.heap.size = q := ⟨_, rfl⟩
  rw [hq5] at hQ1
  have HQ5 := Lib.hid hq5
  have hP1 : PoolEx w1 g bh bw (10, 0, 0, 0) (fillS n 0) := by rw [fillS_zero]; exact ⟨_, _, hP⟩
  have HN5 : Hid (q5 ≠ bh ∧ q5 ≠ bw) := Lib.hid (by rw [← hq5]; omega)
  rw [hsz] at hg hbh hbw
  rw [hq5]
  clear P1 hP hF1 hsz hq5
  go_wp2_with fail
  go_loopw [8] (fun iv wr => ∃ i : Nat, i ≤ n ∧ iv = .int .i64 i ∧ PoolEx wr g bh bw (10, 0, 0, 0) (fillS n i) ∧ Blk wr q5 #[.int .u8 10, .int .u8 0, .int .u8 0, .int .u8 0] 23 ∧ Fr [] w wr) (fun iv _ => n - (intOf iv).toNat)
  case atStart => exact ⟨0, by omega, rfl, hP1, hQ1, hF2⟩
  case round =>
    clear hP1 hQ1 hF2
    obtain ⟨i, hi, rfl, hP, hQ, hF⟩ := hrel
    by_cases hlt : i < n
    · have hT := ex_take_new (1, (i : Int)) i (by unfold KyOk; simp only; omega) hP (fillS_notIn n i) (fillS_taken n i hi) (by rw [fillS_at n i i hlt, if_neg (by omega)])
      rw [fillS_set n i hlt] at hT
      have hAj := AD.out i (by omega)
      obtain ⟨⟨e0, e1, e2, e3⟩, hev⟩ : ∃ a, adq (numb (10, 0, 0, 0) + i) = a := ⟨_, rfl⟩
      rw [show adrN (num4 10 0 0 0 + (i : Int)) = adC (adq (numb (10, 0, 0, 0) + i)) from rfl, hev] at hAj
      rw [hev] at hT
      have heq := fun W => eq_ad (e0, e1, e2, e3) (e0, e1, e2, e3) W
      rw [show adEq (e0, e1, e2, e3) (e0, e1, e2, e3) = true by simp [adEq]] at heq
      unfold adC adr at hAj hT heq
      unfold kyC at hT
      simp only at hAj hT heq
      have HT := Lib.hid hT
      have HA := Lib.hid hAj
      have HEq := Lib.hid heq
      have hi256 : (i : Int) ≤ 256 := by omega
      clear hev hT hAj hP
      go_wp2_with fail
      refine HT.out.mono ?_
      rintro e w3 ⟨rfl, hP3, hG⟩
      have hF3 := hF.sub hG HX.out
      have hQ3 := hG.blk hQ (by simp; exact HN5.out)
      clear HT hG hF hQ
      go_wp2_with fail
      obtain ⟨W, hW⟩ : ∃ W, w3.alloc (.cells #[.int .u8 e0, .int .u8 e1, .int .u8 e2, .int .u8 e3] 23 (0, 0)) = W := ⟨_, rfl⟩
      have hFW : Fr [] w3 W := by rw [← hW]; exact (Fr.refl _ _).alloc _
      have hB9 : Blk W w3.heap.size #[.int .u8 e0, .int .u8 e1, .int .u8 e2, .int .u8 e3] 23 := by rw [← hW]; exact Blk.new _ _ _
      obtain ⟨r9, hr9⟩ : ∃ r, w3.heap.size = r := ⟨_, rfl⟩
      rw [hr9] at hB9
      rw [hW, hr9]
      have hQW := hFW.blk hQ3 (by simp)
      have hPW := hP3.fr0 hFW
      have hFW2 := hF3.trans hFW
      clear hW hr9 hQ3 hP3 hF3 hFW
      have hG : ((W.drew.cell? ⟨r9, 0, none⟩ = some (.int .u8 e0) ∧ W.drew.cell? ⟨r9, 1, none⟩ = some (.int .u8 e1) ∧ W.drew.cell? ⟨r9, 2, none⟩ = some (.int .u8 e2) ∧ W.drew.cell? ⟨r9, 3, none⟩ = some (.int .u8 e3)) ∧
        (W.drew.cell? ⟨q5, 0, none⟩ = some (.int .u8 10) ∧ W.drew.cell? ⟨q5, 1, none⟩ = some (.int .u8 0) ∧ W.drew.cell? ⟨q5, 2, none⟩ = some (.int .u8 0) ∧ W.drew.cell? ⟨q5, 3, none⟩ = some (.int .u8 0))) ∧ Blk W.drew r9 (adC (e0, e1, e2, e3)) 23 ∧ Blk W.drew q5 (adC (10, 0, 0, 0)) 23 ∧ Fr [] W W.drew :=
        ⟨⟨⟨hB9.c 0 _ rfl, hB9.c 1 _ rfl, hB9.c 2 _ rfl, hB9.c 3 _ rfl⟩, ⟨hQW.c 0 _ rfl, hQW.c 1 _ rfl, hQW.c 2 _ rfl, hQW.c 3 _ rfl⟩⟩, hB9.drew, hQW.drew, (Fr.refl _ _).drew⟩
      go_region_held3 (fun w' => ((w'.cell? ⟨r9, 0, none⟩ = some (.int .u8 e0) ∧ w'.cell? ⟨r9, 1, none⟩ = some (.int .u8 e1) ∧ w'.cell? ⟨r9, 2, none⟩ = some (.int .u8 e2) ∧ w'.cell? ⟨r9, 3, none⟩ = some (.int .u8 e3)) ∧
        (w'.cell? ⟨q5, 0, none⟩ = some (.int .u8 10) ∧ w'.cell? ⟨q5, 1, none⟩ = some (.int .u8 0) ∧ w'.cell? ⟨q5, 2, none⟩ = some (.int .u8 0) ∧ w'.cell? ⟨q5, 3, none⟩ = some (.int .u8 0))) ∧ Blk w' r9 (adC (e0, e1, e2, e3)) 23 ∧ Blk w' q5 (adC (10, 0, 0, 0)) 23 ∧ Fr [] W w')
        (first | exact hG | assumption | exact adS_step (x := (e0, e1, e2, e3)) (y := (10, 0, 0, 0)) (by assumption) (by assumption))
        (first | (go_at_call 9; refine (HA.out _).mono ?_; rintro e w5 ⟨rfl, hF5⟩))
      all_goals
        have hS : ((w5.cell? ⟨r9, 0, none⟩ = some (.int .u8 e0) ∧ w5.cell? ⟨r9, 1, none⟩ = some (.int .u8 e1) ∧ w5.cell? ⟨r9, 2, none⟩ = some (.int .u8 e2) ∧ w5.cell? ⟨r9, 3, none⟩ = some (.int .u8 e3)) ∧
          (w5.cell? ⟨q5, 0, none⟩ = some (.int .u8 10) ∧ w5.cell? ⟨q5, 1, none⟩ = some (.int .u8 0) ∧ w5.cell? ⟨q5, 2, none⟩ = some (.int .u8 0) ∧ w5.cell? ⟨q5, 3, none⟩ = some (.int .u8 0))) ∧ Blk w5 r9 (adC (e0, e1, e2, e3)) 23 ∧ Blk w5 q5 (adC (10, 0, 0, 0)) 23 ∧ Fr [] W w5 := by assumption
        have hP5 := hPW.fr0 hS.2.2.2
        have hF6 := hFW2.trans hS.2.2.2
        have hQ6 := hS.2.2.1
        clear hG hS heq HEq HA hPW hFW2 hQW hB9 hF5
        go_wp2_with fail
        go_roundw
        case rel => exact ⟨i + 1, by omega, by go_num, hP5, hQ6, hF6⟩
        case measure => (simp [intOf]) <;> omega
    · obtain rfl : i = n := by omega
      clear hlt hi
      obtain ⟨hlen, hcap, hmax, hV, hrow⟩ := id HL.out
      clear hV hrow
      unfold maxLen at hmax
      have HQ := Lib.hid hQ
      go_wp2_with fail
      go_loopw [11, 12] (fun lv iv wr => ∃ (j least : Nat) (s : List (Option Ky)), j ≤ len ∧ iv = .int .i64 j ∧ lv = .int .i64 least ∧ least ≤ i ∧ Hid (Lst i s least) ∧ PoolEx wr g bh bw (10, 0, 0, 0) s ∧ Blk wr q5 #[.int .u8 10, .int .u8 0, .int .u8 0, .int .u8 0] 23 ∧ Fr [] w wr) (fun _ iv _ => len - (intOf iv).toNat)
      case atStart => exact ⟨0, i, fillS i i, by omega, rfl, rfl, by omega, Lib.hid (lst_start i), hP, HQ.out, hF⟩
      case round =>
        clear hP hQ hF HQ
        obtain ⟨j, least, s, hj, rfl, rfl, hli, hL, hP, hQ, hF⟩ := hrel
        by_cases hjl : j < len
        · obtain ⟨bb, off, x, rfl, hbb, hx, hxV, hcell⟩ := HL.out.at_ j hjl
          have c0 : wr.cell? ⟨bb, off + j, none⟩ = some (.int .i64 x) := by
            have := hcell wr hF 0 _ rfl
            simpa using this
          have h255 := and255 x
          obtain ⟨k, hk⟩ : ∃ k : Nat, x % 256 = k := ⟨(x % 256).toNat, by omega⟩
          have hkb : (k : Int) ≤ 255 := by omega
          rw [hk] at h255
          have hjb : (j : Int) ≤ 50 := by omega
          clear hcell hxV hx hk
          have hlb : (least : Int) ≤ 256 := by omega
          rcases hL.out.cases k with hyes | hno
          · have hki := at_lt hyes
            rw [hL.out.len] at hki
            have hT := ex_give_yes (1, (k : Int)) k (by unfold KyOk; simp only; omega) hP hyes
            unfold kyC at hT
            simp only at hT
            have HT := Lib.hid hT
            have HL2 := Lib.hid (hL.out.give hyes)
            have hmin : ((min least k : Nat) : Int) = min (least : Int) (k : Int) := by omega
            have hge : ¬ (i : Int) ≤ (k : Int) := by omega
            have HM := Lib.hid hmin
            clear hT hP hyes hmin hL
            go_wp2_with fail
            refine HT.out.mono ?_
            rintro e w3 ⟨rfl, hP3, hG⟩
            have hF3 := hF.sub hG HX.out
            have hQ3 := hG.blk hQ (by simp; exact HN5.out)
            clear HT hG hF hQ c0
            go_wp2_with fail
            go_roundw
            case rel => exact ⟨j + 1, min least k, _, by omega, by go_num, by rw [HM.out], by omega, HL2, hP3, hQ3, hF3⟩
            case measure => (simp [intOf]) <;> omega
          · have hT := ex_give_no (1, (k : Int)) (by unfold KyOk; simp only; omega) hP hno
            unfold kyC at hT
            simp only at hT
            have HT := Lib.hid hT
            clear hT hno
            go_wp2_with fail
            refine HT.out.mono ?_
            rintro e w3 ⟨rfl, hG⟩
            have hF3 := hF.trans hG
            have hQ3 := hG.blk hQ (by simp)
            have hP3 := hP.fr0 hG
            clear HT hG hF hQ hP c0
            go_wp2_with fail
            go_roundw
            case rel => exact ⟨j + 1, least, s, by omega, by go_num, rfl, hli, hL, hP3, hQ3, hF3⟩
            case measure => (simp [intOf]) <;> omega
        · have hge : ¬ (j : Int) < (len : Int) := by omega
          have hlb : (least : Int) ≤ 256 := by omega
          by_cases hli2 : least = i
          · subst hli2
            have hT := ex_take_full (2, 1) (by unfold KyOk; decide) hP hL.out.not2 (by rw [hL.out.len]; exact hL.out.taken)
            unfold kyC adC adr at hT
            simp only at hT
            have HT := Lib.hid hT
            clear hT hP hjl hj hQ hL
            go_wp2_with fail
            refine HT.out.mono ?_
            rintro e w3 ⟨rfl, hG⟩
            have hF3 := hF.trans hG
            clear HT hG hF
            go_wp2_with fail
            refine (alive16 _).mono ?_
            rintro e w4 ⟨rfl, hG⟩
            have hF4 := (hF3.alloc _).trans hG
            go_wp2_with fail
            go_ret
            exact ⟨rfl, hF4.below (Nat.le_refl _) (by simp)⟩
          · have hT := ex_take_new (2, 1) least (by unfold KyOk; decide) hP hL.out.not2 hL.out.taken (hL.out.at_ (by omega))
            have hAj := AD.out least (by omega)
            obtain ⟨⟨e0, e1, e2, e3⟩, hev⟩ : ∃ a, adq (numb (10, 0, 0, 0) + least) = a := ⟨_, rfl⟩
            rw [show adrN (num4 10 0 0 0 + (least : Int)) = adC (adq (numb (10, 0, 0, 0) + least)) from rfl, hev] at hAj
            rw [hev] at hT
            have heq := fun W => eq_ad (e0, e1, e2, e3) (e0, e1, e2, e3) W
            rw [show adEq (e0, e1, e2, e3) (e0, e1, e2, e3) = true by simp [adEq]] at heq
            unfold adC adr at hAj hT heq
            unfold kyC at hT
            simp only at hAj hT heq
            have HT := Lib.hid hT
            have HA := Lib.hid hAj
            have HEq := Lib.hid heq
            have hne : ((least : Int) == (i : Int)) = false := by rw [beq_eq_false_iff_ne]; omega
            have HNe := Lib.hid hne
            clear hev hT hAj hP heq hjl hj hL hli2 hne
            go_wp2_with fail
            refine HT.out.mono ?_
            rintro e w3 ⟨rfl, hP3, hG⟩
            have hF3 := hF.sub hG HX.out
            have hQ3 := hG.blk hQ (by simp; exact HN5.out)
            have hne := HNe.out
            clear HT hG hF hQ hP3
            go_wp2_with fail
            obtain ⟨W, hW⟩ : ∃ W, w3.alloc (.cells #[.int .u8 e0, .int .u8 e1, .int .u8 e2, .int .u8 e3] 23 (0, 0)) = W := ⟨_, rfl⟩
            have hFW : Fr [] w3 W := by rw [← hW]; exact (Fr.refl _ _).alloc _
            have hB9 : Blk W w3.heap.size #[.int .u8 e0, .int .u8 e1, .int .u8 e2, .int .u8 e3] 23 := by rw [← hW]; exact Blk.new _ _ _
            obtain ⟨r9, hr9⟩ : ∃ r, w3.heap.size = r := ⟨_, rfl⟩
            rw [hr9] at hB9
            rw [hW, hr9]
            have hQW := hFW.blk hQ3 (by simp)
            have hFW2 := hF3.trans hFW
            have heq := HEq.out
            clear hW hr9 hQ3 hF3 hFW
            have hG : ((W.drew.cell? ⟨r9, 0, none⟩ = some (.int .u8 e0) ∧ W.drew.cell? ⟨r9, 1, none⟩ = some (.int .u8 e1) ∧ W.drew.cell? ⟨r9, 2, none⟩ = some (.int .u8 e2) ∧ W.drew.cell? ⟨r9, 3, none⟩ = some (.int .u8 e3)) ∧
              (W.drew.cell? ⟨q5, 0, none⟩ = some (.int .u8 10) ∧ W.drew.cell? ⟨q5, 1, none⟩ = some (.int .u8 0) ∧ W.drew.cell? ⟨q5, 2, none⟩ = some (.int .u8 0) ∧ W.drew.cell? ⟨q5, 3, none⟩ = some (.int .u8 0))) ∧ Blk W.drew r9 (adC (e0, e1, e2, e3)) 23 ∧ Blk W.drew q5 (adC (10, 0, 0, 0)) 23 ∧ Fr [] W W.drew :=
              ⟨⟨⟨hB9.c 0 _ rfl, hB9.c 1 _ rfl, hB9.c 2 _ rfl, hB9.c 3 _ rfl⟩, ⟨hQW.c 0 _ rfl, hQW.c 1 _ rfl, hQW.c 2 _ rfl, hQW.c 3 _ rfl⟩⟩, hB9.drew, hQW.drew, (Fr.refl _ _).drew⟩
            go_region_held3 (fun w' => ((w'.cell? ⟨r9, 0, none⟩ = some (.int .u8 e0) ∧ w'.cell? ⟨r9, 1, none⟩ = some (.int .u8 e1) ∧ w'.cell? ⟨r9, 2, none⟩ = some (.int .u8 e2) ∧ w'.cell? ⟨r9, 3, none⟩ = some (.int .u8 e3)) ∧
              (w'.cell? ⟨q5, 0, none⟩ = some (.int .u8 10) ∧ w'.cell? ⟨q5, 1, none⟩ = some (.int .u8 0) ∧ w'.cell? ⟨q5, 2, none⟩ = some (.int .u8 0) ∧ w'.cell? ⟨q5, 3, none⟩ = some (.int .u8 0))) ∧ Blk w' r9 (adC (e0, e1, e2, e3)) 23 ∧ Blk w' q5 (adC (10, 0, 0, 0)) 23 ∧ Fr [] W w')
              (first | exact hG | assumption | exact adS_step (x := (e0, e1, e2, e3)) (y := (10, 0, 0, 0)) (by assumption) hF5)
              (first | (go_at_call 9; refine (HA.out _).mono ?_; rintro e w5 ⟨rfl, hF5⟩) | (go_at_call 8; refine (alive16 _).mono ?_; rintro e w5 ⟨rfl, hF5⟩))
            all_goals
              have hS : ((w5.cell? ⟨r9, 0, none⟩ = some (.int .u8 e0) ∧ w5.cell? ⟨r9, 1, none⟩ = some (.int .u8 e1) ∧ w5.cell? ⟨r9, 2, none⟩ = some (.int .u8 e2) ∧ w5.cell? ⟨r9, 3, none⟩ = some (.int .u8 e3)) ∧
              (w5.cell? ⟨q5, 0, none⟩ = some (.int .u8 10) ∧ w5.cell? ⟨q5, 1, none⟩ = some (.int .u8 0) ∧ w5.cell? ⟨q5, 2, none⟩ = some (.int .u8 0) ∧ w5.cell? ⟨q5, 3, none⟩ = some (.int .u8 0))) ∧ Blk w5 r9 (adC (e0, e1, e2, e3)) 23 ∧ Blk w5 q5 (adC (10, 0, 0, 0)) 23 ∧ Fr [] W w5 := by assumption
              have hF6 := hFW2.trans hS.2.2.2
              clear hG hS heq HEq HA hFW2 hQW hB9 hF5
              go_wp2_with fail
              go_ret
              exact ⟨rfl, hF6.below (Nat.le_refl _) (by simp)⟩
set_option maxRecDepth 100000 in
set_option maxHeartbeats 4000000 in
theorem poolLeast_walk (w : World) (n : Int) (n0 : -9223372036854775808 ≤ n) (n1 : n ≤ 9223372036854775807) (a : Option Addr) (len cap : Nat) (l : List Int) (hl : IsInts w a len cap l) :
    Calls Try.prog 4 #[.int .i64 n, .slice a len cap] w fun e w' => e = .returned (.bool true) ∧ Below w.heap.size w w' := by
  have hmax := hl.2.2.1
  have hcap := hl.2.1
  unfold maxLen at hmax
  by_cases hE : 1 ≤ n ∧ n ≤ 256
  · obtain ⟨m, rfl⟩ : ∃ m : Nat, n = m := ⟨n.toNat, by omega⟩
    by_cases h50 : len ≤ 50
    · exact least_small w m a len cap l hl (by omega) (by omega) h50
    · have P1 := Lib.hid fun (W : World) => plnew_ok (w := W) (10, 0, 0, 0) m (by unfold AdOk u8; decide) (by omega) (by omega) (by show (167772160 : Int) + m ≤ _; omega)
      have h51 : (50 : Int) < len := by omega
      clear hl hE h50
      go_enter Try.func4, Try.ntmps4
      go_wp2_with fail
      refine (P1.out _).mono ?_
      rintro e w1 ⟨g, bh, bw, rfl, hg, hbh, hbw, hP, hF1⟩
      clear hP
      go_wp2_with fail
      refine (alive16 _).mono ?_
      rintro e w2 ⟨rfl, hF2⟩
      go_wp2_with fail
      go_ret
      exact ⟨rfl, ((((Fr.refl _ _).alloc _).trans hF1).trans hF2).below (Nat.le_refl _) (by simp)⟩
  · have P1 := Lib.hid fun (W : World) => plnew_bad (w := W) (10, 0, 0, 0) n (by unfold AdOk u8; decide) n0 n1 (by omega)
    clear hl hE
    go_enter Try.func4, Try.ntmps4
    go_wp2_with fail
    refine (P1.out _).mono ?_
    rintro e w1 ⟨rfl, hF1⟩
    go_wp2_with fail
    refine (alive16 _).mono ?_
    rintro e w2 ⟨rfl, hF2⟩
    go_wp2_with fail
    go_ret
    exact ⟨rfl, ((((Fr.refl _ _).alloc _).trans hF1).trans hF2).below (Nat.le_refl _) (by simp)⟩
end Go.Proofs.Ytnenmgankgadcaa
