/- tag: packets and tags read. -/
import Derived.Test.YtcdencpkgfehlaaTagQ
import Derived.Test.YtcdencpkgfehlaaHost2
import Derived.Laws.BitsAllLaws
namespace Go.Proofs.Ytcdencpkgfehlaa
open Go.RowKit
set_option linter.unusedVariables false
theorem wrap_byte (b : UInt8) : wrap64 (b.toNat : Int) = (b.toNat : Int) := IntWalk.wrap64_in _ (by have := byte_bd b; omega)
theorem or_byte (x : Int) (b : UInt8) (h0 : 0 ≤ x) (h1 : x < 4294967296) : bits .or .i64 (wrap64 (x * 256)) (wrap64 (b.toNat : Int)) = x * 256 + b.toNat := by
  have hb := byte_bd b
  rw [wrap_byte, IntWalk.wrap64_in _ (by omega)]
  obtain ⟨n, rfl⟩ := Int.eq_ofNat_of_zero_le h0
  have hk : ∀ n : Int, 0 ≤ n → n < 2 ^ 62 → IntKind.i64.wrap n = n := fun n h0 h1 => by rw [IntKind.wrap_i64]; omega
  have e : ((n : Int) * 256) = ((n * 256 : Nat) : Int) := by omega
  rw [e, (bits_nat .i64 62 (by decide) hk (n * 256) b.toNat (by omega) (by have := b.toNat_lt; omega)).2, nat_join 8 _ _ (by omega) (by have := b.toNat_lt; omega)]
  omega
theorem or_zero (b : UInt8) : bits .or .i64 0 (wrap64 (b.toNat : Int)) = b.toNat := by
  have := or_byte 0 b (by omega) (by omega)
  simpa [wrap64] using this

/-- n bytes at k, as a number -/
def getV (l : List UInt8) (k : Nat) : Nat → Int
  | 0 => 0
  | n + 1 => getV l k n * 256 + (l.getD (k + n) 0).toNat
theorem getV_bd (l : List UInt8) (k n : Nat) : 0 ≤ getV l k n ∧ getV l k n < 256 ^ n := by
  induction n with
  | zero => simp [getV]
  | succ n ih =>
    have := byte_bd (l.getD (k + n) 0)
    simp only [getV, Int.pow_succ]
    omega
theorem getD_at (l : List UInt8) (i : Nat) (h : i < l.length) : l.getD i 0 = l[i] := by simp [List.getD, List.getElem?_eq_getElem h]
theorem rint2 {k k' : IntKind} {a b c : Int} (h : a = b) : Ending.returned (.tuple #[.int k a, .int k' c]) = .returned (.tuple #[.int k b, .int k' c]) := by rw [h]
theorem get_2 (l : List UInt8) (k : Nat) (w : World) (hk : k + 2 ≤ l.length) (hl : l.length ≤ 9223372036854775807) :
    Calls Try.prog 68 #[.string (B l), .int .i64 k, .int .i64 2] w fun e w' => e = .returned (.tuple #[.int .i64 (getV l k 2), .int .i64 0]) ∧ w = w' := by
  have hi : inB 2 1 4 = true := rfl
  go_enter Try.func68, Try.ntmps68
  go_wp2_with fail
  refine (in_any _ _ _ _).mono ?_
  rintro e w1 ⟨rfl, rfl⟩
  go_wp2
  refine wp_loop_rounds 3 ?_
  rw [rounds_succ]; go_wp2
  rw [rounds_succ]; go_wp2
  rw [rounds_succ]; go_wp2
  go_ret2
  have g0 := getD_at l (k + 0) (by omega)
  have b0 := byte_bd (l[k + 0]'(by omega))
  have g1 := getD_at l (k + 1) (by omega)
  have b1 := byte_bd (l[k + 1]'(by omega))
  refine ⟨rint2 ?_, rfl⟩
  simp only [getV, g0, g1, Nat.add_zero, Int.zero_mul, Int.zero_add] at *
  rw [or_zero]
  simp (discharger := omega) only [or_byte]


theorem getD_append_right (p r : List UInt8) (i : Nat) : (p ++ r).getD (p.length + i) 0 = r.getD i 0 := by
  simp [List.getD, List.getElem?_append_right]
theorem getV_be (p r : List UInt8) (v : Int) (h0 : 0 ≤ v) (h1 : v < 65536) : getV (p ++ (be 2 v ++ r)) p.length 2 = v := by
  have e : be 2 v ++ r = UInt8.ofNat (v / 256 % 256).toNat :: UInt8.ofNat (v % 256).toNat :: r := by simp [be]
  have g0 : (p ++ (be 2 v ++ r)).getD (p.length + 0) 0 = UInt8.ofNat (v / 256 % 256).toNat := by rw [getD_append_right, e]; rfl
  have g1 : (p ++ (be 2 v ++ r)).getD (p.length + 1) 0 = UInt8.ofNat (v % 256).toNat := by rw [getD_append_right, e]; rfl
  simp only [getV, g0, g1]
  have a0 : (UInt8.ofNat (v / 256 % 256).toNat).toNat = (v / 256 % 256).toNat := by rw [UInt8.toNat_ofNat']; omega
  have a1 : (UInt8.ofNat (v % 256).toNat).toNat = (v % 256).toNat := by rw [UInt8.toNat_ofNat']; omega
  rw [a0, a1]
  omega
theorem num_at (L p r : List UInt8) (v : Int) (k : Nat) (w : World) (hL : L = p ++ (be 2 v ++ r)) (hk : p.length = k) (h0 : 0 ≤ v) (h1 : v < 65536) (hl : L.length ≤ 9223372036854775807) :
    Calls Try.prog 67 #[.string (B L), .int .i64 k] w fun e w' => e = .returned (.int .i64 v) ∧ w' = w := by
  have hg := getV_be p r v h0 h1
  rw [← hL, hk] at hg
  have hkl : k + 2 ≤ L.length := by rw [hL, ← hk]; simp [be_length]
  have G := Lib.hid fun W => get_2 L k W hkl hl
  rw [hg] at G
  clear hg hkl hk hL h0 h1 hl
  go_enter Try.func67, Try.ntmps67
  go_wp2_with fail
  refine (G.out _).mono ?_
  rintro e w1 ⟨rfl, rfl⟩
  go_wp2_with fail
  go_ret
  exact ⟨rfl, rfl⟩
def findN (l : List Tg) (k : Int) : Nat := (l.filter fun t => t.1 == k).length
def findS (l : List Tg) (k : Int) : List UInt8 := match l.find? fun t => t.1 == k with | some t => t.2 | none => []
theorem findN_snoc {l : List Tg} {j : Nat} {t : Tg} (h : l[j]? = some t) (k : Int) : findN (l.take (j + 1)) k = findN (l.take j) k + (if t.1 = k then 1 else 0) := by
  unfold findN
  rw [List.take_add_one, h, List.filter_append, List.length_append]
  simp only [Option.toList_some, List.filter_cons, List.filter_nil]
  by_cases e : t.1 = k <;> simp [e]
theorem findS_snoc {l : List Tg} {j : Nat} {t : Tg} (h : l[j]? = some t) (k : Int) : findS (l.take (j + 1)) k = if t.1 = k ∧ findN (l.take j) k = 0 then t.2 else findS (l.take j) k := by
  unfold findS findN
  rw [List.take_add_one, h, List.find?_append]
  cases hf : (l.take j).find? (fun t => t.1 == k) with
  | some u =>
    have hu : 0 < ((l.take j).filter fun t => t.1 == k).length := by
      rw [List.length_pos_iff_exists_mem]
      exact ⟨u, List.mem_filter.2 ⟨List.mem_of_find?_eq_some hf, by simpa using List.find?_some hf⟩⟩
    rw [if_neg (by omega)]
    simp
  | none =>
    have hz : ((l.take j).filter fun t => t.1 == k) = [] := by
      rw [List.filter_eq_nil_iff]
      intro u hu
      simpa using List.find?_eq_none.1 hf u hu
    rw [hz]
    by_cases e : t.1 = k <;> simp [e, Option.toList]
theorem findN_le (l : List Tg) (k : Int) : findN l k ≤ l.length := List.length_filter_le _ _
section
variable {w : World}
set_option maxRecDepth 100000 in
set_option maxHeartbeats 4000000 in
theorem find_any {A : Option Addr} {cap : Nat} {l : List Tg} (k : Int) (h : TgAt w A l) (hl : l.length ≤ 20) (hc : l.length ≤ cap) (hm : cap ≤ maxLen) :
    Calls Try.prog 49 #[.slice A l.length cap, .int .i64 k] w fun e w' => e = .returned (.tuple #[.string (B (findS l k)), .int .i64 (findN l k : Nat)]) ∧ Fr [] w w' := by
  have H := Lib.hid h
  unfold maxLen at hm
  clear h
  go_enter Try.func49, Try.ntmps49
  go_wp2_with fail
  go_loopw [6, 7, 12] (fun sv nv iv wr => ∃ j : Nat, j ≤ l.length ∧ iv = .int .i64 j ∧ sv = .string (B (findS (l.take j) k)) ∧ nv = .int .i64 (findN (l.take j) k : Nat) ∧ Fr [] w wr) (fun _ _ iv _ => l.length - (intOf iv).toNat)
  case atStart => exact ⟨0, by omega, rfl, rfl, rfl, Fr.refl _ _⟩
  case round =>
    obtain ⟨j, hj, rfl, rfl, rfl, hF⟩ := hrel
    by_cases hjl : j < l.length
    · obtain ⟨⟨t, s⟩, ht⟩ : ∃ t, l[j]? = some t := ⟨_, List.getElem?_eq_getElem hjl⟩
      obtain ⟨b, off, rfl, hb, hcell⟩ := H.out j _ ht
      obtain ⟨c0, c1⟩ := hcell _ hF
      simp only at c0 c1
      have HN := Lib.hid (findN_snoc ht k)
      have HS := Lib.hid (findS_snoc ht k)
      have hnl := findN_le (l.take j) k
      rw [List.length_take] at hnl
      obtain ⟨n, hn⟩ : ∃ n, findN (l.take j) k = n := ⟨_, rfl⟩
      obtain ⟨X, hX⟩ : ∃ X, findS (l.take j) k = X := ⟨_, rfl⟩
      rw [hn] at HN HS hnl ⊢
      rw [hX] at HS ⊢
      have hjb : (j : Int) ≤ 20 := by omega
      have hnb : (n : Int) ≤ 20 := by omega
      have HF := Lib.hid (hF.alloc (.cells #[.int .i64 t, .string (B s)] 54 (0, 0)))
      clear hcell ht hb hF hnl hn hX
      by_cases hk : t = k
      · have e : (t != k) = false := by simp [hk]
        by_cases hz : n = 0
        · have e2 : ((n : Int) == 0) = true := by simp [hz]
          have HN' := HN.out
          have HS' := HS.out
          rw [if_pos hk] at HN'
          rw [if_pos ⟨hk, hz⟩] at HS'
          have HN2 := Lib.hid HN'
          have HS2 := Lib.hid HS'
          clear HN HS HN' HS' hk hz
          go_wp2_with fail
          go_roundw
          case rel => exact ⟨j + 1, by omega, by go_num, by rw [HS2.out], by rw [HN2.out]; go_num, HF.out⟩
          case measure => (simp [intOf]) <;> omega
        · have e2 : ((n : Int) == 0) = false := by simpa using hz
          have HN' := HN.out
          have HS' := HS.out
          rw [if_pos hk] at HN'
          rw [if_neg (by simp [hz])] at HS'
          have HN2 := Lib.hid HN'
          have HS2 := Lib.hid HS'
          clear HN HS HN' HS' hk hz
          go_wp2_with fail
          go_roundw
          case rel => exact ⟨j + 1, by omega, by go_num, by rw [HS2.out], by rw [HN2.out]; go_num, HF.out⟩
          case measure => (simp [intOf]) <;> omega
      · have e : (t != k) = true := by simpa using hk
        have HN' := HN.out
        have HS' := HS.out
        rw [if_neg hk] at HN'
        rw [if_neg (by simp [hk])] at HS'
        have HN2 := Lib.hid HN'
        have HS2 := Lib.hid HS'
        clear HN HS HN' HS' hk
        go_wp2_with fail
        go_roundw
        case rel => exact ⟨j + 1, by omega, by go_num, by rw [HS2.out], by rw [HN2.out]; rfl, HF.out⟩
        case measure => (simp [intOf]) <;> omega
    · obtain rfl : j = l.length := by omega
      have hge : ¬ (l.length : Int) < l.length := by omega
      rw [List.take_length]
      clear hj hjl
      go_wp2_with fail
      go_ret2
      exact ⟨rfl, hF⟩
end
end Go.Proofs.Ytcdencpkgfehlaa
