/- The digest's words, plain: turning, the steps, the blocks, the tail. No program is spoken of here. -/
import Derived.Test.YtfchbppfbepelaaGreatStr
namespace Go.Proofs.YtfchbppfbepelaaGreat
set_option linter.unusedVariables false

def rot1 (x : Nat) : Nat := x * 2 % 4294967296 + x / 2147483648
def rotN : Nat → Nat → Nat
  | 0, x => x
  | k + 1, x => rot1 (rotN k x)
theorem rot1_lt {x : Nat} (h : x < 4294967296) : rot1 x < 4294967296 := by unfold rot1; omega
theorem rotN_lt (k : Nat) {x : Nat} (h : x < 4294967296) : rotN k x < 4294967296 := by
  induction k with
  | zero => exact h
  | succ k ih => exact rot1_lt ih
theorem rotN_add (j k x : Nat) : rotN (j + k) x = rotN j (rotN k x) := by
  induction j with
  | zero => rw [Nat.zero_add]; rfl
  | succ j ih => rw [Nat.succ_add]; show rot1 _ = rot1 _; rw [ih]
theorem rot1_step (b l c : Nat) (hb : b ≤ 1) (h : l + c < 2147483648) : rot1 (b * 2147483648 + l + c) = 2 * (l + c) + b := by unfold rot1; omega
theorem rot_0 (x : Nat) (h : x < 4294967296) : rotN 0 x = x * 1 % 4294967296 + x / 4294967296 := by show x = _; omega
theorem rot_step (p m x : Nat) (hp : p * m = 2147483648) (hm0 : 0 < m) (h : x < 4294967296) :
    rot1 (x * p % 4294967296 + x / (2 * m)) = x * (2 * p) % 4294967296 + x / m := by
  have hu : x * p % 4294967296 = (x % (2 * m)) * p := by
    have e : (4294967296 : Nat) = (2 * m) * p := by rw [Nat.mul_assoc, Nat.mul_comm m p, hp]
    rw [e, Nat.mul_mod_mul_right]
  have e2 : (4294967296 : Nat) = m * (2 * p) := by rw [Nat.mul_left_comm, Nat.mul_comm m p, hp]
  have hl : x * (2 * p) % 4294967296 = (x % m) * (2 * p) := by rw [e2, Nat.mul_mod_mul_right]
  have hb : x % (2 * m) = x % m + m * (x / m % 2) := by rw [Nat.mul_comm 2 m, Nat.mod_mul]
  have hd : x / (2 * m) = x / m / 2 := by rw [Nat.mul_comm 2 m, Nat.div_div_eq_div_mul]
  have hv : x / m < 2 * p := Nat.div_lt_of_lt_mul (by rw [← e2]; exact h)
  have hlo : (x % m + 1) * p ≤ m * p := Nat.mul_le_mul_right p (Nat.mod_lt x hm0)
  rw [Nat.mul_comm m p, hp, Nat.add_mul] at hlo
  have e3 : (x % m + m * (x / m % 2)) * p = (x / m % 2) * 2147483648 + x % m * p := by
    rw [Nat.add_mul, Nat.mul_right_comm, Nat.mul_comm m p, hp]; omega
  rw [hu, hl, hb, hd, e3, rot1_step _ _ _ (by omega) (by omega), Nat.mul_left_comm]
  omega
theorem rot_1 (x : Nat) (h : x < 4294967296) : rotN 1 x = x * 2 % 4294967296 + x / 2147483648 := (congrArg rot1 (rot_0 x h)).trans (rot_step 1 2147483648 x rfl (by decide) h)
theorem rot_2 (x : Nat) (h : x < 4294967296) : rotN 2 x = x * 4 % 4294967296 + x / 1073741824 := (congrArg rot1 (rot_1 x h)).trans (rot_step 2 1073741824 x rfl (by decide) h)
theorem rot_3 (x : Nat) (h : x < 4294967296) : rotN 3 x = x * 8 % 4294967296 + x / 536870912 := (congrArg rot1 (rot_2 x h)).trans (rot_step 4 536870912 x rfl (by decide) h)
theorem rot_4 (x : Nat) (h : x < 4294967296) : rotN 4 x = x * 16 % 4294967296 + x / 268435456 := (congrArg rot1 (rot_3 x h)).trans (rot_step 8 268435456 x rfl (by decide) h)
theorem rot_5 (x : Nat) (h : x < 4294967296) : rotN 5 x = x * 32 % 4294967296 + x / 134217728 := (congrArg rot1 (rot_4 x h)).trans (rot_step 16 134217728 x rfl (by decide) h)
theorem rot_6 (x : Nat) (h : x < 4294967296) : rotN 6 x = x * 64 % 4294967296 + x / 67108864 := (congrArg rot1 (rot_5 x h)).trans (rot_step 32 67108864 x rfl (by decide) h)
theorem rot_7 (x : Nat) (h : x < 4294967296) : rotN 7 x = x * 128 % 4294967296 + x / 33554432 := (congrArg rot1 (rot_6 x h)).trans (rot_step 64 33554432 x rfl (by decide) h)
theorem rot_8 (x : Nat) (h : x < 4294967296) : rotN 8 x = x * 256 % 4294967296 + x / 16777216 := (congrArg rot1 (rot_7 x h)).trans (rot_step 128 16777216 x rfl (by decide) h)
theorem rot_9 (x : Nat) (h : x < 4294967296) : rotN 9 x = x * 512 % 4294967296 + x / 8388608 := (congrArg rot1 (rot_8 x h)).trans (rot_step 256 8388608 x rfl (by decide) h)
theorem rot_10 (x : Nat) (h : x < 4294967296) : rotN 10 x = x * 1024 % 4294967296 + x / 4194304 := (congrArg rot1 (rot_9 x h)).trans (rot_step 512 4194304 x rfl (by decide) h)
theorem rot_11 (x : Nat) (h : x < 4294967296) : rotN 11 x = x * 2048 % 4294967296 + x / 2097152 := (congrArg rot1 (rot_10 x h)).trans (rot_step 1024 2097152 x rfl (by decide) h)
theorem rot_12 (x : Nat) (h : x < 4294967296) : rotN 12 x = x * 4096 % 4294967296 + x / 1048576 := (congrArg rot1 (rot_11 x h)).trans (rot_step 2048 1048576 x rfl (by decide) h)
theorem rot_13 (x : Nat) (h : x < 4294967296) : rotN 13 x = x * 8192 % 4294967296 + x / 524288 := (congrArg rot1 (rot_12 x h)).trans (rot_step 4096 524288 x rfl (by decide) h)
theorem rot_14 (x : Nat) (h : x < 4294967296) : rotN 14 x = x * 16384 % 4294967296 + x / 262144 := (congrArg rot1 (rot_13 x h)).trans (rot_step 8192 262144 x rfl (by decide) h)
theorem rot_15 (x : Nat) (h : x < 4294967296) : rotN 15 x = x * 32768 % 4294967296 + x / 131072 := (congrArg rot1 (rot_14 x h)).trans (rot_step 16384 131072 x rfl (by decide) h)
theorem rot_16 (x : Nat) (h : x < 4294967296) : rotN 16 x = x * 65536 % 4294967296 + x / 65536 := (congrArg rot1 (rot_15 x h)).trans (rot_step 32768 65536 x rfl (by decide) h)
theorem rot_17 (x : Nat) (h : x < 4294967296) : rotN 17 x = x * 131072 % 4294967296 + x / 32768 := (congrArg rot1 (rot_16 x h)).trans (rot_step 65536 32768 x rfl (by decide) h)
theorem rot_18 (x : Nat) (h : x < 4294967296) : rotN 18 x = x * 262144 % 4294967296 + x / 16384 := (congrArg rot1 (rot_17 x h)).trans (rot_step 131072 16384 x rfl (by decide) h)
theorem rot_19 (x : Nat) (h : x < 4294967296) : rotN 19 x = x * 524288 % 4294967296 + x / 8192 := (congrArg rot1 (rot_18 x h)).trans (rot_step 262144 8192 x rfl (by decide) h)
theorem rot_20 (x : Nat) (h : x < 4294967296) : rotN 20 x = x * 1048576 % 4294967296 + x / 4096 := (congrArg rot1 (rot_19 x h)).trans (rot_step 524288 4096 x rfl (by decide) h)
theorem rot_21 (x : Nat) (h : x < 4294967296) : rotN 21 x = x * 2097152 % 4294967296 + x / 2048 := (congrArg rot1 (rot_20 x h)).trans (rot_step 1048576 2048 x rfl (by decide) h)
theorem rot_22 (x : Nat) (h : x < 4294967296) : rotN 22 x = x * 4194304 % 4294967296 + x / 1024 := (congrArg rot1 (rot_21 x h)).trans (rot_step 2097152 1024 x rfl (by decide) h)
theorem rot_23 (x : Nat) (h : x < 4294967296) : rotN 23 x = x * 8388608 % 4294967296 + x / 512 := (congrArg rot1 (rot_22 x h)).trans (rot_step 4194304 512 x rfl (by decide) h)
theorem rot_24 (x : Nat) (h : x < 4294967296) : rotN 24 x = x * 16777216 % 4294967296 + x / 256 := (congrArg rot1 (rot_23 x h)).trans (rot_step 8388608 256 x rfl (by decide) h)
theorem rot_25 (x : Nat) (h : x < 4294967296) : rotN 25 x = x * 33554432 % 4294967296 + x / 128 := (congrArg rot1 (rot_24 x h)).trans (rot_step 16777216 128 x rfl (by decide) h)
theorem rot_26 (x : Nat) (h : x < 4294967296) : rotN 26 x = x * 67108864 % 4294967296 + x / 64 := (congrArg rot1 (rot_25 x h)).trans (rot_step 33554432 64 x rfl (by decide) h)
theorem rot_27 (x : Nat) (h : x < 4294967296) : rotN 27 x = x * 134217728 % 4294967296 + x / 32 := (congrArg rot1 (rot_26 x h)).trans (rot_step 67108864 32 x rfl (by decide) h)
theorem rot_28 (x : Nat) (h : x < 4294967296) : rotN 28 x = x * 268435456 % 4294967296 + x / 16 := (congrArg rot1 (rot_27 x h)).trans (rot_step 134217728 16 x rfl (by decide) h)
theorem rot_29 (x : Nat) (h : x < 4294967296) : rotN 29 x = x * 536870912 % 4294967296 + x / 8 := (congrArg rot1 (rot_28 x h)).trans (rot_step 268435456 8 x rfl (by decide) h)
theorem rot_30 (x : Nat) (h : x < 4294967296) : rotN 30 x = x * 1073741824 % 4294967296 + x / 4 := (congrArg rot1 (rot_29 x h)).trans (rot_step 536870912 4 x rfl (by decide) h)
theorem rot_31 (x : Nat) (h : x < 4294967296) : rotN 31 x = x * 2147483648 % 4294967296 + x / 2 := (congrArg rot1 (rot_30 x h)).trans (rot_step 1073741824 2 x rfl (by decide) h)
theorem rot_32 (x : Nat) (h : x < 4294967296) : rotN 32 x = x * 4294967296 % 4294967296 + x / 1 := (congrArg rot1 (rot_31 x h)).trans (rot_step 2147483648 1 x rfl (by decide) h)
theorem rotN_32 (x : Nat) (h : x < 4294967296) : rotN 32 x = x := by rw [rot_32 x h]; omega
theorem rotN_mod (k x : Nat) (h : x < 4294967296) : rotN (k % 32) x = rotN k x := by
  induction k using Nat.strongRecOn with
  | _ k ih =>
    by_cases hk : k < 32
    · rw [Nat.mod_eq_of_lt hk]
    · have e : k % 32 = (k - 32) % 32 := by omega
      rw [e, ih (k - 32) (by omega)]
      have : k = (k - 32) + 32 := by omega
      conv => rhs; rw [this]
      rw [rotN_add, rotN_32 x h]
/-- turned by k places, in one formula -/
theorem rot_form (k x : Nat) (hk : k ≤ 31) (h : x < 4294967296) : rotN k x = x * 2 ^ k % 4294967296 + x / 2 ^ (32 - k) := by
  have hc : k = 0 ∨ k = 1 ∨ k = 2 ∨ k = 3 ∨ k = 4 ∨ k = 5 ∨ k = 6 ∨ k = 7 ∨ k = 8 ∨ k = 9 ∨ k = 10 ∨ k = 11 ∨ k = 12 ∨ k = 13 ∨ k = 14 ∨ k = 15 ∨ k = 16 ∨ k = 17 ∨ k = 18 ∨ k = 19 ∨ k = 20 ∨ k = 21 ∨ k = 22 ∨ k = 23 ∨ k = 24 ∨ k = 25 ∨ k = 26 ∨ k = 27 ∨ k = 28 ∨ k = 29 ∨ k = 30 ∨ k = 31 := by omega
  rcases hc with rfl | rfl | rfl | rfl | rfl | rfl | rfl | rfl | rfl | rfl | rfl | rfl | rfl | rfl | rfl | rfl | rfl | rfl | rfl | rfl | rfl | rfl | rfl | rfl | rfl | rfl | rfl | rfl | rfl | rfl | rfl | rfl
  · exact rot_0 x h
  · exact rot_1 x h
  · exact rot_2 x h
  · exact rot_3 x h
  · exact rot_4 x h
  · exact rot_5 x h
  · exact rot_6 x h
  · exact rot_7 x h
  · exact rot_8 x h
  · exact rot_9 x h
  · exact rot_10 x h
  · exact rot_11 x h
  · exact rot_12 x h
  · exact rot_13 x h
  · exact rot_14 x h
  · exact rot_15 x h
  · exact rot_16 x h
  · exact rot_17 x h
  · exact rot_18 x h
  · exact rot_19 x h
  · exact rot_20 x h
  · exact rot_21 x h
  · exact rot_22 x h
  · exact rot_23 x h
  · exact rot_24 x h
  · exact rot_25 x h
  · exact rot_26 x h
  · exact rot_27 x h
  · exact rot_28 x h
  · exact rot_29 x h
  · exact rot_30 x h
  · exact rot_31 x h
theorem rot_or (k x : Nat) (hk : k ≤ 31) (h : x < 4294967296) : (x * 2 ^ k % 4294967296) ||| (x / 2 ^ (32 - k)) = rotN k x := by
  rw [rot_form k x hk h]
  have e : (4294967296 : Nat) = 2 ^ k * 2 ^ (32 - k) := by rw [← Nat.pow_add, show k + (32 - k) = 32 from by omega]
  have h1 : x * 2 ^ k % 4294967296 = x % 2 ^ (32 - k) * 2 ^ k := by rw [e, Nat.mul_comm (2 ^ k), Nat.mul_mod_mul_right]
  have h2 : x / 2 ^ (32 - k) < 2 ^ k := by
    rw [Nat.div_lt_iff_lt_mul (Nat.two_pow_pos _), ← e]; exact h
  rw [h1, Nat.mul_comm]
  exact (Nat.two_pow_add_eq_or_of_lt h2 _).symm

/-- how many bits of the first n are set -/
def ones : Nat → Nat → Nat
  | 0, _ => 0
  | n + 1, x => ones n x + x / 2 ^ n % 2
def bitsSum (x : Nat) : Nat := ones 32 x
theorem bit_rot (x P Q : Nat) (h : x < 4294967296) (hPQ : P * Q = 2147483648) (h2 : 2 ∣ Q) : rot1 x / (2 * P) % 2 = x / P % 2 := by
  have e : rot1 x / 2 = x % 2147483648 := by unfold rot1; omega
  rw [← Nat.div_div_eq_div_mul, e, ← hPQ, Nat.mod_mul_right_div_self, Nat.mod_mod_of_dvd _ h2]
theorem ones_rot1 (x : Nat) (h : x < 4294967296) : ones 32 (rot1 x) = ones 32 x := by
  have hy : rot1 x = 2 * (x % 2147483648) + x / 2147483648 := by unfold rot1; omega
  have h0 : rot1 x / 1 % 2 = x / 2147483648 % 2 := by rw [hy]; omega
  have h1 : rot1 x / 2 % 2 = x / 1 % 2 := bit_rot x 1 2147483648 h rfl ⟨1073741824, rfl⟩
  have h2 : rot1 x / 4 % 2 = x / 2 % 2 := bit_rot x 2 1073741824 h rfl ⟨536870912, rfl⟩
  have h3 : rot1 x / 8 % 2 = x / 4 % 2 := bit_rot x 4 536870912 h rfl ⟨268435456, rfl⟩
  have h4 : rot1 x / 16 % 2 = x / 8 % 2 := bit_rot x 8 268435456 h rfl ⟨134217728, rfl⟩
  have h5 : rot1 x / 32 % 2 = x / 16 % 2 := bit_rot x 16 134217728 h rfl ⟨67108864, rfl⟩
  have h6 : rot1 x / 64 % 2 = x / 32 % 2 := bit_rot x 32 67108864 h rfl ⟨33554432, rfl⟩
  have h7 : rot1 x / 128 % 2 = x / 64 % 2 := bit_rot x 64 33554432 h rfl ⟨16777216, rfl⟩
  have h8 : rot1 x / 256 % 2 = x / 128 % 2 := bit_rot x 128 16777216 h rfl ⟨8388608, rfl⟩
  have h9 : rot1 x / 512 % 2 = x / 256 % 2 := bit_rot x 256 8388608 h rfl ⟨4194304, rfl⟩
  have h10 : rot1 x / 1024 % 2 = x / 512 % 2 := bit_rot x 512 4194304 h rfl ⟨2097152, rfl⟩
  have h11 : rot1 x / 2048 % 2 = x / 1024 % 2 := bit_rot x 1024 2097152 h rfl ⟨1048576, rfl⟩
  have h12 : rot1 x / 4096 % 2 = x / 2048 % 2 := bit_rot x 2048 1048576 h rfl ⟨524288, rfl⟩
  have h13 : rot1 x / 8192 % 2 = x / 4096 % 2 := bit_rot x 4096 524288 h rfl ⟨262144, rfl⟩
  have h14 : rot1 x / 16384 % 2 = x / 8192 % 2 := bit_rot x 8192 262144 h rfl ⟨131072, rfl⟩
  have h15 : rot1 x / 32768 % 2 = x / 16384 % 2 := bit_rot x 16384 131072 h rfl ⟨65536, rfl⟩
  have h16 : rot1 x / 65536 % 2 = x / 32768 % 2 := bit_rot x 32768 65536 h rfl ⟨32768, rfl⟩
  have h17 : rot1 x / 131072 % 2 = x / 65536 % 2 := bit_rot x 65536 32768 h rfl ⟨16384, rfl⟩
  have h18 : rot1 x / 262144 % 2 = x / 131072 % 2 := bit_rot x 131072 16384 h rfl ⟨8192, rfl⟩
  have h19 : rot1 x / 524288 % 2 = x / 262144 % 2 := bit_rot x 262144 8192 h rfl ⟨4096, rfl⟩
  have h20 : rot1 x / 1048576 % 2 = x / 524288 % 2 := bit_rot x 524288 4096 h rfl ⟨2048, rfl⟩
  have h21 : rot1 x / 2097152 % 2 = x / 1048576 % 2 := bit_rot x 1048576 2048 h rfl ⟨1024, rfl⟩
  have h22 : rot1 x / 4194304 % 2 = x / 2097152 % 2 := bit_rot x 2097152 1024 h rfl ⟨512, rfl⟩
  have h23 : rot1 x / 8388608 % 2 = x / 4194304 % 2 := bit_rot x 4194304 512 h rfl ⟨256, rfl⟩
  have h24 : rot1 x / 16777216 % 2 = x / 8388608 % 2 := bit_rot x 8388608 256 h rfl ⟨128, rfl⟩
  have h25 : rot1 x / 33554432 % 2 = x / 16777216 % 2 := bit_rot x 16777216 128 h rfl ⟨64, rfl⟩
  have h26 : rot1 x / 67108864 % 2 = x / 33554432 % 2 := bit_rot x 33554432 64 h rfl ⟨32, rfl⟩
  have h27 : rot1 x / 134217728 % 2 = x / 67108864 % 2 := bit_rot x 67108864 32 h rfl ⟨16, rfl⟩
  have h28 : rot1 x / 268435456 % 2 = x / 134217728 % 2 := bit_rot x 134217728 16 h rfl ⟨8, rfl⟩
  have h29 : rot1 x / 536870912 % 2 = x / 268435456 % 2 := bit_rot x 268435456 8 h rfl ⟨4, rfl⟩
  have h30 : rot1 x / 1073741824 % 2 = x / 536870912 % 2 := bit_rot x 536870912 4 h rfl ⟨2, rfl⟩
  have h31 : rot1 x / 2147483648 % 2 = x / 1073741824 % 2 := bit_rot x 1073741824 2 h rfl ⟨1, rfl⟩
  simp only [ones, Nat.reducePow, h0, h1, h2, h3, h4, h5, h6, h7, h8, h9, h10, h11, h12, h13, h14, h15, h16, h17, h18, h19, h20, h21, h22, h23, h24, h25, h26, h27, h28, h29, h30, h31]
  omega
theorem ones_rot (k x : Nat) (h : x < 4294967296) : ones 32 (rotN k x) = ones 32 x := by
  induction k with
  | zero => rfl
  | succ k ih => show ones 32 (rot1 _) = _; rw [ones_rot1 _ (rotN_lt k h), ih]

def tabL : List Nat := [3614090360, 3905402710, 606105819, 3250441966, 4118548399, 1200080426, 2821735955, 4249261313, 1770035416, 2336552879, 4294925233, 2304563134, 1804603682, 4254626195, 2792965006, 1236535329, 4129170786, 3225465664, 643717713, 3921069994, 3593408605, 38016083, 3634488961, 3889429448, 568446438, 3275163606, 4107603335, 1163531501, 2850285829, 4243563512, 1735328473, 2368359562, 4294588738, 2272392833, 1839030562, 4259657740, 2763975236, 1272893353, 4139469664, 3200236656, 681279174, 3936430074, 3572445317, 76029189, 3654602809, 3873151461, 530742520, 3299628645, 4096336452, 1126891415, 2878612391, 4237533241, 1700485571, 2399980690, 4293915773, 2240044497, 1873313359, 4264355552, 2734768916, 1309151649, 4149444226, 3174756917, 718787259, 3951481745]
def turnL : List Nat := [7, 12, 17, 22, 5, 9, 14, 20, 4, 11, 16, 23, 6, 10, 15, 21]
def not32 (x : Nat) : Nat := 4294967295 - x
def mixF (i b c d : Nat) : Nat := if i < 16 then (b &&& c) ||| (not32 b &&& d) else if i < 32 then (b &&& d) ||| (c &&& not32 d) else if i < 48 then b ^^^ c ^^^ d else c ^^^ (b ||| not32 d)
def mixK (i : Nat) : Nat := if i < 16 then i else if i < 32 then (5 * i + 1) % 16 else if i < 48 then (3 * i + 5) % 16 else 7 * i % 16
structure St where
  a : Nat
  b : Nat
  c : Nat
  d : Nat
def turnOf (i : Nat) : Nat := turnL.getD (i / 16 * 4 + i % 4) 0
def stepB (w : List Nat) (i : Nat) (s : St) : Nat := (s.b + rotN (turnOf i) ((s.a + mixF i s.b s.c s.d + tabL.getD i 0 + w.getD (mixK i) 0) % 4294967296)) % 4294967296
def stepS (w : List Nat) (i : Nat) (s : St) : St := ⟨s.d, stepB w i s, s.b, s.c⟩
def stepsS (w : List Nat) (s : St) : Nat → St
  | 0 => s
  | n + 1 => stepS w n (stepsS w s n)
def onS (s : St) (w : List Nat) : St := ⟨(s.a + (stepsS w s 64).a) % 4294967296, (s.b + (stepsS w s 64).b) % 4294967296, (s.c + (stepsS w s 64).c) % 4294967296, (s.d + (stepsS w s 64).d) % 4294967296⟩
structure St.Ok (s : St) : Prop where
  a : s.a < 4294967296
  b : s.b < 4294967296
  c : s.c < 4294967296
  d : s.d < 4294967296
theorem stepS_ok (w : List Nat) (i : Nat) {s : St} (h : s.Ok) : (stepS w i s).Ok := ⟨h.d, Nat.mod_lt _ (by decide), h.b, h.c⟩
theorem stepsS_ok (w : List Nat) {s : St} (h : s.Ok) (n : Nat) : (stepsS w s n).Ok := by
  induction n with
  | zero => exact h
  | succ n ih => exact stepS_ok w n ih
theorem onS_ok (w : List Nat) (s : St) : (onS s w).Ok := ⟨Nat.mod_lt _ (by decide), Nat.mod_lt _ (by decide), Nat.mod_lt _ (by decide), Nat.mod_lt _ (by decide)⟩
theorem mixF_lt (i : Nat) {b c d : Nat} (hb : b < 4294967296) (hc : c < 4294967296) (hd : d < 4294967296) : mixF i b c d < 4294967296 := by
  have hn : ∀ x : Nat, not32 x < 4294967296 := fun x => by unfold not32; omega
  unfold mixF
  split
  · exact Nat.or_lt_two_pow (n := 32) (Nat.and_lt_two_pow (n := 32) _ hc) (Nat.and_lt_two_pow (n := 32) _ hd)
  · split
    · exact Nat.or_lt_two_pow (n := 32) (Nat.and_lt_two_pow (n := 32) _ hd) (Nat.and_lt_two_pow (n := 32) _ (hn _))
    · split
      · exact Nat.xor_lt_two_pow (n := 32) (Nat.xor_lt_two_pow (n := 32) hb hc) hd
      · exact Nat.xor_lt_two_pow (n := 32) hc (Nat.or_lt_two_pow (n := 32) hb (hn _))
theorem mixK_lt (i : Nat) : mixK i < 16 := by unfold mixK; split <;> (try split) <;> (try split) <;> omega

/-- a block's word -/
def wordAt (l : List UInt8) (j : Nat) : Nat := (l.getD (4 * j) 0).toNat + (l.getD (4 * j + 1) 0).toNat * 256 + (l.getD (4 * j + 2) 0).toNat * 65536 + (l.getD (4 * j + 3) 0).toNat * 16777216
def wordsL (l : List UInt8) : List Nat := (List.range 16).map (wordAt l)
def init : St := ⟨1732584193, 4023233417, 2562383102, 271733878⟩
def mdAt (l : List UInt8) : Nat → St
  | 0 => init
  | k + 1 => onS (mdAt l k) (wordsL (l.drop (64 * k)))
theorem init_ok : init.Ok := ⟨by decide, by decide, by decide, by decide⟩
theorem mdAt_ok (l : List UInt8) (k : Nat) : (mdAt l k).Ok := by
  cases k with
  | zero => exact init_ok
  | succ k => exact onS_ok _ _
def zerosN (n : Nat) : Nat := (119 - n % 64) % 64
def longL (n : Nat) : List UInt8 := (List.range 8).map fun i => UInt8.ofNat (n * 8 / 256 ^ i % 256)
def tailL (n : Nat) : List UInt8 := 128 :: (List.replicate (zerosN n) 0 ++ longL n)
def padL (l : List UInt8) : List UInt8 := l ++ tailL l.length
theorem tailL_length (n : Nat) : (tailL n).length = zerosN n + 9 := by simp [tailL, longL]
theorem padL_length (l : List UInt8) : (padL l).length % 64 = 0 ∧ (padL l).length = l.length + zerosN l.length + 9 ∧ zerosN l.length < 64 := by
  have h : (padL l).length = l.length + zerosN l.length + 9 := by unfold padL; rw [List.length_append, tailL_length]; omega
  rw [h]
  unfold zerosN
  omega
def St.get (s : St) (i : Nat) : Nat := if i = 0 then s.a else if i = 1 then s.b else if i = 2 then s.c else s.d
def outAt (s : St) (i : Nat) : Nat := s.get (i / 4) / 256 ^ (i % 4) % 256
def outL (s : St) : List UInt8 := (List.range 16).map fun i => UInt8.ofNat (outAt s i)
def md5S (l : List UInt8) : St := mdAt (padL l) ((padL l).length / 64)
def md5 (l : List UInt8) : List UInt8 := outL (md5S l)
theorem outL_length (s : St) : (outL s).length = 16 := by simp [outL]
theorem md5_length (l : List UInt8) : (md5 l).length = 16 := outL_length _
end Go.Proofs.YtfchbppfbepelaaGreat
