/- The digest, the document's: laws of its steps. -/
import Derived.Test.YtfchbppfbepelaaGreatMd5
namespace Go.Proofs.YtfchbppfbepelaaGreat
open Go.RowKit
set_option linter.unusedVariables false

def tabI : Array Value := (tabL.map fun n : Nat => Value.int .i64 (n : Int)).toArray
def turnI : Array Value := (turnL.map fun n : Nat => Value.int .i64 (n : Int)).toArray
def stI (s : St) : Array Value := #[.int .i64 (s.a : Int), .int .i64 (s.b : Int), .int .i64 (s.c : Int), .int .i64 (s.d : Int)]
theorem tabI_get (i : Nat) (hi : i < 64) : tabI[i]? = some (.int .i64 (tabL.getD i 0 : Nat)) := by
  unfold tabI
  rw [List.getElem?_toArray, List.getElem?_map, List.getElem?_eq_getElem (show i < tabL.length from hi)]
  simp [List.getD, List.getElem?_eq_getElem (show i < tabL.length from hi)]
theorem turnI_get (i : Nat) (hi : i < 64) : turnI[i / 16 * 4 + i % 4]? = some (.int .i64 (turnOf i : Nat)) := by
  unfold turnI turnOf
  have h : i / 16 * 4 + i % 4 < turnL.length := by show _ < 16; omega
  rw [List.getElem?_toArray, List.getElem?_map, List.getElem?_eq_getElem h]
  simp [List.getD, List.getElem?_eq_getElem h]

theorem tabL_lt (i : Nat) : tabL.getD i 0 < 4294967296 := by
  by_cases h : i < 64
  · have : ∀ j : Fin 64, tabL.getD j.1 0 < 4294967296 := by decide
    exact this ⟨i, h⟩
  · rw [List.getD, List.getElem?_eq_none (by show 64 ≤ i; omega)]; simp
theorem turnOf_lt (i : Nat) : turnOf i < 32 := by
  unfold turnOf
  by_cases h : i / 16 * 4 + i % 4 < 16
  · have : ∀ j : Fin 16, turnL.getD j.1 0 < 32 := by decide
    exact this ⟨_, h⟩
  · rw [List.getD, List.getElem?_eq_none (by show 16 ≤ _; omega)]; simp
theorem cast4 (a b c d : Nat) : (a : Int) + (b : Int) * 256 + (c : Int) * 65536 + (d : Int) * 16777216 = ((a + b * 256 + c * 65536 + d * 16777216 : Nat) : Int) := by
  rw [Int.natCast_add, Int.natCast_add, Int.natCast_add, Int.natCast_mul, Int.natCast_mul, Int.natCast_mul]
  simp only [Int.cast_ofNat_Int]
theorem drop_getD (M : List UInt8) (a x : Nat) (h : a + x < M.length) : (M.drop a).getD x 0 = M[a + x] := by
  rw [List.getD, List.getElem?_drop, List.getElem?_eq_getElem h, Option.getD_some]
theorem wordsL_get (l : List UInt8) (q : Nat) (hq : q < 16) : (wordsL l).getD q 0 = wordAt l q := by
  unfold wordsL
  rw [List.getD, List.getElem?_map, List.getElem?_range hq, Option.map_some, Option.getD_some]
theorem word_at (M : List UInt8) (a q : Nat) (hq : q < 16) (h : a + 4 * q + 3 < M.length) :
    ((M[a + 4 * q]'(by omega)).toNat : Int) + ((M[a + 4 * q + 1]'(by omega)).toNat : Int) * 256 + ((M[a + 4 * q + 2]'(by omega)).toNat : Int) * 65536 + ((M[a + 4 * q + 3]'(by omega)).toNat : Int) * 16777216 = (((wordsL (M.drop a)).getD q 0 : Nat) : Int) := by
  rw [wordsL_get _ q hq, wordAt, drop_getD M a (4 * q) (by omega), drop_getD M a (4 * q + 1) (by omega), drop_getD M a (4 * q + 2) (by omega), drop_getD M a (4 * q + 3) (by omega)]
  simp only [← Nat.add_assoc]
  exact cast4 _ _ _ _
theorem i64_bits (a b : Nat) (ha : a < 4294967296) (hb : b < 4294967296) : bits .and .i64 (a : Int) (b : Int) = ((a &&& b : Nat) : Int) ∧ bits .or .i64 (a : Int) (b : Int) = ((a ||| b : Nat) : Int) :=
  bits_nat .i64 32 (by decide) (fun n h0 h1 => by rw [IntKind.wrap_i64]; simp only [Int.reducePow] at h1; omega) a b ha hb
theorem i64_xor32 (a b : Nat) (ha : a < 4294967296) (hb : b < 4294967296) : bits .xor .i64 (a : Int) (b : Int) = ((a ^^^ b : Nat) : Int) := by
  have hx : a ^^^ b < 4294967296 := Nat.xor_lt_two_pow (n := 32) ha hb
  show IntKind.i64.wrap ((BitVec.ofInt 64 (a : Int) ^^^ BitVec.ofInt 64 (b : Int)).toNat : Int) = _
  rw [BitVec.toNat_xor, ofInt_u64 a (by omega), ofInt_u64 b (by omega), IntKind.wrap_i64]
  omega
theorem not32_int (x : Nat) (h : x < 4294967296) : (4294967295 - (x : Int)) = (not32 x : Nat) := by unfold not32; omega
section
variable (i : Nat) (b c d F : Int) (b0 : 0 ≤ b) (b1 : b < 4294967296) (c0 : 0 ≤ c) (c1 : c < 4294967296) (d0 : 0 ≤ d) (d1 : d < 4294967296) (hF : mixI i b c d = F)
theorem fmix_0 (h : i < 16) (b0 : 0 ≤ b) (b1 : b < 4294967296) (c0 : 0 ≤ c) (c1 : c < 4294967296) (d0 : 0 ≤ d) (d1 : d < 4294967296) (hF : mixI i b c d = F) : bits .or .i64 (bits .and .i64 b c) (bits .and .i64 (4294967295 - b) d) = F := by
  obtain ⟨b, rfl⟩ : ∃ k : Nat, b = k := ⟨b.toNat, by omega⟩
  obtain ⟨c, rfl⟩ : ∃ k : Nat, c = k := ⟨c.toNat, by omega⟩
  obtain ⟨d, rfl⟩ : ∃ k : Nat, d = k := ⟨d.toNat, by omega⟩
  rw [← hF, mixI, mixF, if_pos h, Int.toNat_natCast, Int.toNat_natCast, Int.toNat_natCast, not32_int b (by omega), (i64_bits b c (by omega) (by omega)).1, (i64_bits (not32 b) d (not32_lt b) (by omega)).1, (i64_bits _ _ (and32 (by omega)) (and32 (by omega))).2]
theorem fmix_1 (h : ¬ i < 16) (h' : i < 32) (b0 : 0 ≤ b) (b1 : b < 4294967296) (c0 : 0 ≤ c) (c1 : c < 4294967296) (d0 : 0 ≤ d) (d1 : d < 4294967296) (hF : mixI i b c d = F) : bits .or .i64 (bits .and .i64 d b) (bits .and .i64 (4294967295 - d) c) = F := by
  obtain ⟨b, rfl⟩ : ∃ k : Nat, b = k := ⟨b.toNat, by omega⟩
  obtain ⟨c, rfl⟩ : ∃ k : Nat, c = k := ⟨c.toNat, by omega⟩
  obtain ⟨d, rfl⟩ : ∃ k : Nat, d = k := ⟨d.toNat, by omega⟩
  rw [← hF, mixI, mixF, if_neg h, if_pos h', Int.toNat_natCast, Int.toNat_natCast, Int.toNat_natCast, not32_int d (by omega), (i64_bits d b (by omega) (by omega)).1, (i64_bits (not32 d) c (not32_lt d) (by omega)).1, (i64_bits _ _ (and32 (by omega)) (and32 (by omega))).2, Nat.and_comm d b, Nat.and_comm (not32 d) c]
theorem fmix_2 (h : ¬ i < 16) (h' : ¬ i < 32) (h2 : i < 48) (b0 : 0 ≤ b) (b1 : b < 4294967296) (c0 : 0 ≤ c) (c1 : c < 4294967296) (d0 : 0 ≤ d) (d1 : d < 4294967296) (hF : mixI i b c d = F) : bits .xor .i64 (bits .xor .i64 b c) d = F := by
  obtain ⟨b, rfl⟩ : ∃ k : Nat, b = k := ⟨b.toNat, by omega⟩
  obtain ⟨c, rfl⟩ : ∃ k : Nat, c = k := ⟨c.toNat, by omega⟩
  obtain ⟨d, rfl⟩ : ∃ k : Nat, d = k := ⟨d.toNat, by omega⟩
  rw [← hF, mixI, mixF, if_neg h, if_neg h', if_pos h2, Int.toNat_natCast, Int.toNat_natCast, Int.toNat_natCast, i64_xor32 b c (by omega) (by omega), i64_xor32 _ d (xor32 (by omega) (by omega)) (by omega)]
theorem fmix_3 (h : ¬ i < 16) (h' : ¬ i < 32) (h2 : ¬ i < 48) (b0 : 0 ≤ b) (b1 : b < 4294967296) (c0 : 0 ≤ c) (c1 : c < 4294967296) (d0 : 0 ≤ d) (d1 : d < 4294967296) (hF : mixI i b c d = F) : bits .xor .i64 c (bits .or .i64 b (4294967295 - d)) = F := by
  obtain ⟨b, rfl⟩ : ∃ k : Nat, b = k := ⟨b.toNat, by omega⟩
  obtain ⟨c, rfl⟩ : ∃ k : Nat, c = k := ⟨c.toNat, by omega⟩
  obtain ⟨d, rfl⟩ : ∃ k : Nat, d = k := ⟨d.toNat, by omega⟩
  rw [← hF, mixI, mixF, if_neg h, if_neg h', if_neg h2, Int.toNat_natCast, Int.toNat_natCast, Int.toNat_natCast, not32_int d (by omega), (i64_bits b (not32 d) (by omega) (not32_lt d)).2, i64_xor32 c _ (by omega) (or32 (by omega) (not32_lt d))]
end
theorem rstep_val (ws : List Nat) (k : Nat) (t : St) (ok : t.Ok) (A B C D F V TB TN : Int) (hA : (t.a : Int) = A) (hB : (t.b : Int) = B) (hC : (t.c : Int) = C) (hD : (t.d : Int) = D) (hV : ((ws.getD (mixK k) 0 : Nat) : Int) = V)
    (hF : mixI k B C D = F) (hTB : ((tabL.getD k 0 : Nat) : Int) = TB) (hTN : ((turnOf k : Nat) : Int) = TN) :
    (B + rotI TN ((F + A + TB + V) % 4294967296)) % 4294967296 = ((stepB ws k t : Nat) : Int) := by
  rw [← step_val ws k t ok A B C D V hA hB hC hD hV, hF, hTB, hTN]
  have e : (((A + F) % 4294967296 + TB) % 4294967296 + V) % 4294967296 = (F + A + TB + V) % 4294967296 := by omega
  rw [e]
theorem stI_get (t : St) (j : Nat) (hj : j < 4) : (stI t)[j]? = some (.int .i64 (t.get j : Nat)) := by
  have h : j = 0 ∨ j = 1 ∨ j = 2 ∨ j = 3 := by omega
  rcases h with rfl | rfl | rfl | rfl <;> rfl
theorem long_byte (n i : Nat) : UInt8.ofNat ((n : Int) * 8 / 2 ^ (8 * i) % 256).toNat = UInt8.ofNat (n * 8 / 256 ^ i % 256) := by
  have e : (n : Int) * 8 / 2 ^ (8 * i) % 256 = ((n * 8 / 256 ^ i % 256 : Nat) : Int) := by
    rw [show (256 : Nat) ^ i = 2 ^ (8 * i) from by rw [Nat.pow_mul]]
    simp
  rw [e, Int.toNat_natCast]
theorem take_long (n j : Nat) (hj : j < 8) : (longL n).take (j + 1) = (longL n).take j ++ bytesOf [(n : Int) * 8 / 2 ^ (8 * j) % 256] := by
  have hl : j < (longL n).length := by simp [longL, hj]
  rw [List.take_succ_eq_append_getElem hl]
  congr 1
  show [(longL n)[j]] = [UInt8.ofNat ((n : Int) * 8 / 2 ^ (8 * j) % 256).toNat]
  rw [long_byte]
  simp [longL]
theorem div_next (n j : Nat) : (n : Int) * 8 / 2 ^ (8 * j) / 256 = (n : Int) * 8 / 2 ^ (8 * (j + 1)) := by
  have e : (2 : Int) ^ (8 * (j + 1)) = 2 ^ (8 * j) * 256 := by rw [Nat.mul_add, Int.pow_add]; rfl
  rw [e, Int.ediv_ediv_of_nonneg (Int.pow_nonneg (by decide))]

end Go.Proofs.YtfchbppfbepelaaGreat
