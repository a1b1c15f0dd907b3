/- Several texts in one: DgLaw, Rot, Tab, Mix, Words, On, Md5, Same. -/
import Derived.Test.YtcdencpkgfehlaaMgA
import Derived.Laws.BitsAllLaws
import Derived.RegionTactic
import Derived.Deep.RegionHeld3
/- The digest's words, plain: turning, the steps, the blocks, the tail. No program is spoken of here. -/
namespace Go.Proofs.Ytcdencpkgfehlaa
set_option linter.unusedVariables false

def rot1 (x : Nat) : Nat := x * 2 % 4294967296 + x / 2147483648
def rotN : Nat → Nat → Nat
  | 0, x => x
  | k + 1, x => rot1 (rotN k x)
theorem rot1_lt {x : Nat} (h : x < 4294967296) : rot1 x < 4294967296 := by unfold rot1; omega
theorem rotN_lt (k : Nat) {x : Nat} (h : x < 4294967296) : rotN k x < 4294967296 := by
  induction k with
  | zero => exact h
  | succ k ih => exact rot1_lt ih
theorem rotN_add (j k x : Nat) : rotN (j + k) x = rotN j (rotN k x) := by
  induction j with
  | zero => rw [Nat.zero_add]; rfl
  | succ j ih => rw [Nat.succ_add]; show rot1 _ = rot1 _; rw [ih]
theorem rot1_step (b l c : Nat) (hb : b ≤ 1) (h : l + c < 2147483648) : rot1 (b * 2147483648 + l + c) = 2 * (l + c) + b := by unfold rot1; omega
theorem rot_0 (x : Nat) (h : x < 4294967296) : rotN 0 x = x * 1 % 4294967296 + x / 4294967296 := by show x = _; omega
theorem rot_step (p m x : Nat) (hp : p * m = 2147483648) (hm0 : 0 < m) (h : x < 4294967296) :
    rot1 (x * p % 4294967296 + x / (2 * m)) = x * (2 * p) % 4294967296 + x / m := by
  have hu : x * p % 4294967296 = (x % (2 * m)) * p := by
    have e : (4294967296 : Nat) = (2 * m) * p := by rw [Nat.mul_assoc, Nat.mul_comm m p, hp]
    rw [e, Nat.mul_mod_mul_right]
  have e2 : (4294967296 : Nat) = m * (2 * p) := by rw [Nat.mul_left_comm, Nat.mul_comm m p, hp]
  have hl : x * (2 * p) % 4294967296 = (x % m) * (2 * p) := by rw [e2, Nat.mul_mod_mul_right]
  have hb : x % (2 * m) = x % m + m * (x / m % 2) := by rw [Nat.mul_comm 2 m, Nat.mod_mul]
  have hd : x / (2 * m) = x / m / 2 := by rw [Nat.mul_comm 2 m, Nat.div_div_eq_div_mul]
  have hv : x / m < 2 * p := Nat.div_lt_of_lt_mul (by rw [← e2]; exact h)
  have hlo : (x % m + 1) * p ≤ m * p := Nat.mul_le_mul_right p (Nat.mod_lt x hm0)
  rw [Nat.mul_comm m p, hp, Nat.add_mul] at hlo
  have e3 : (x % m + m * (x / m % 2)) * p = (x / m % 2) * 2147483648 + x % m * p := by
    rw [Nat.add_mul, Nat.mul_right_comm, Nat.mul_comm m p, hp]; omega
  rw [hu, hl, hb, hd, e3, rot1_step _ _ _ (by omega) (by omega), Nat.mul_left_comm]
  omega
theorem rot_1 (x : Nat) (h : x < 4294967296) : rotN 1 x = x * 2 % 4294967296 + x / 2147483648 := (congrArg rot1 (rot_0 x h)).trans (rot_step 1 2147483648 x rfl (by decide) h)
theorem rot_2 (x : Nat) (h : x < 4294967296) : rotN 2 x = x * 4 % 4294967296 + x / 1073741824 := (congrArg rot1 (rot_1 x h)).trans (rot_step 2 1073741824 x rfl (by decide) h)
theorem rot_3 (x : Nat) (h : x < 4294967296) : rotN 3 x = x * 8 % 4294967296 + x / 536870912 := (congrArg rot1 (rot_2 x h)).trans (rot_step 4 536870912 x rfl (by decide) h)
theorem rot_4 (x : Nat) (h : x < 4294967296) : rotN 4 x = x * 16 % 4294967296 + x / 268435456 := (congrArg rot1 (rot_3 x h)).trans (rot_step 8 268435456 x rfl (by decide) h)
theorem rot_5 (x : Nat) (h : x < 4294967296) : rotN 5 x = x * 32 % 4294967296 + x / 134217728 := (congrArg rot1 (rot_4 x h)).trans (rot_step 16 134217728 x rfl (by decide) h)
theorem rot_6 (x : Nat) (h : x < 4294967296) : rotN 6 x = x * 64 % 4294967296 + x / 67108864 := (congrArg rot1 (rot_5 x h)).trans (rot_step 32 67108864 x rfl (by decide) h)
theorem rot_7 (x : Nat) (h : x < 4294967296) : rotN 7 x = x * 128 % 4294967296 + x / 33554432 := (congrArg rot1 (rot_6 x h)).trans (rot_step 64 33554432 x rfl (by decide) h)
theorem rot_8 (x : Nat) (h : x < 4294967296) : rotN 8 x = x * 256 % 4294967296 + x / 16777216 := (congrArg rot1 (rot_7 x h)).trans (rot_step 128 16777216 x rfl (by decide) h)
theorem rot_9 (x : Nat) (h : x < 4294967296) : rotN 9 x = x * 512 % 4294967296 + x / 8388608 := (congrArg rot1 (rot_8 x h)).trans (rot_step 256 8388608 x rfl (by decide) h)
theorem rot_10 (x : Nat) (h : x < 4294967296) : rotN 10 x = x * 1024 % 4294967296 + x / 4194304 := (congrArg rot1 (rot_9 x h)).trans (rot_step 512 4194304 x rfl (by decide) h)
theorem rot_11 (x : Nat) (h : x < 4294967296) : rotN 11 x = x * 2048 % 4294967296 + x / 2097152 := (congrArg rot1 (rot_10 x h)).trans (rot_step 1024 2097152 x rfl (by decide) h)
theorem rot_12 (x : Nat) (h : x < 4294967296) : rotN 12 x = x * 4096 % 4294967296 + x / 1048576 := (congrArg rot1 (rot_11 x h)).trans (rot_step 2048 1048576 x rfl (by decide) h)
theorem rot_13 (x : Nat) (h : x < 4294967296) : rotN 13 x = x * 8192 % 4294967296 + x / 524288 := (congrArg rot1 (rot_12 x h)).trans (rot_step 4096 524288 x rfl (by decide) h)
theorem rot_14 (x : Nat) (h : x < 4294967296) : rotN 14 x = x * 16384 % 4294967296 + x / 262144 := (congrArg rot1 (rot_13 x h)).trans (rot_step 8192 262144 x rfl (by decide) h)
theorem rot_15 (x : Nat) (h : x < 4294967296) : rotN 15 x = x * 32768 % 4294967296 + x / 131072 := (congrArg rot1 (rot_14 x h)).trans (rot_step 16384 131072 x rfl (by decide) h)
theorem rot_16 (x : Nat) (h : x < 4294967296) : rotN 16 x = x * 65536 % 4294967296 + x / 65536 := (congrArg rot1 (rot_15 x h)).trans (rot_step 32768 65536 x rfl (by decide) h)
theorem rot_17 (x : Nat) (h : x < 4294967296) : rotN 17 x = x * 131072 % 4294967296 + x / 32768 := (congrArg rot1 (rot_16 x h)).trans (rot_step 65536 32768 x rfl (by decide) h)
theorem rot_18 (x : Nat) (h : x < 4294967296) : rotN 18 x = x * 262144 % 4294967296 + x / 16384 := (congrArg rot1 (rot_17 x h)).trans (rot_step 131072 16384 x rfl (by decide) h)
theorem rot_19 (x : Nat) (h : x < 4294967296) : rotN 19 x = x * 524288 % 4294967296 + x / 8192 := (congrArg rot1 (rot_18 x h)).trans (rot_step 262144 8192 x rfl (by decide) h)
theorem rot_20 (x : Nat) (h : x < 4294967296) : rotN 20 x = x * 1048576 % 4294967296 + x / 4096 := (congrArg rot1 (rot_19 x h)).trans (rot_step 524288 4096 x rfl (by decide) h)
theorem rot_21 (x : Nat) (h : x < 4294967296) : rotN 21 x = x * 2097152 % 4294967296 + x / 2048 := (congrArg rot1 (rot_20 x h)).trans (rot_step 1048576 2048 x rfl (by decide) h)
theorem rot_22 (x : Nat) (h : x < 4294967296) : rotN 22 x = x * 4194304 % 4294967296 + x / 1024 := (congrArg rot1 (rot_21 x h)).trans (rot_step 2097152 1024 x rfl (by decide) h)
theorem rot_23 (x : Nat) (h : x < 4294967296) : rotN 23 x = x * 8388608 % 4294967296 + x / 512 := (congrArg rot1 (rot_22 x h)).trans (rot_step 4194304 512 x rfl (by decide) h)
theorem rot_24 (x : Nat) (h : x < 4294967296) : rotN 24 x = x * 16777216 % 4294967296 + x / 256 := (congrArg rot1 (rot_23 x h)).trans (rot_step 8388608 256 x rfl (by decide) h)
theorem rot_25 (x : Nat) (h : x < 4294967296) : rotN 25 x = x * 33554432 % 4294967296 + x / 128 := (congrArg rot1 (rot_24 x h)).trans (rot_step 16777216 128 x rfl (by decide) h)
theorem rot_26 (x : Nat) (h : x < 4294967296) : rotN 26 x = x * 67108864 % 4294967296 + x / 64 := (congrArg rot1 (rot_25 x h)).trans (rot_step 33554432 64 x rfl (by decide) h)
theorem rot_27 (x : Nat) (h : x < 4294967296) : rotN 27 x = x * 134217728 % 4294967296 + x / 32 := (congrArg rot1 (rot_26 x h)).trans (rot_step 67108864 32 x rfl (by decide) h)
theorem rot_28 (x : Nat) (h : x < 4294967296) : rotN 28 x = x * 268435456 % 4294967296 + x / 16 := (congrArg rot1 (rot_27 x h)).trans (rot_step 134217728 16 x rfl (by decide) h)
theorem rot_29 (x : Nat) (h : x < 4294967296) : rotN 29 x = x * 536870912 % 4294967296 + x / 8 := (congrArg rot1 (rot_28 x h)).trans (rot_step 268435456 8 x rfl (by decide) h)
theorem rot_30 (x : Nat) (h : x < 4294967296) : rotN 30 x = x * 1073741824 % 4294967296 + x / 4 := (congrArg rot1 (rot_29 x h)).trans (rot_step 536870912 4 x rfl (by decide) h)
theorem rot_31 (x : Nat) (h : x < 4294967296) : rotN 31 x = x * 2147483648 % 4294967296 + x / 2 := (congrArg rot1 (rot_30 x h)).trans (rot_step 1073741824 2 x rfl (by decide) h)
theorem rot_32 (x : Nat) (h : x < 4294967296) : rotN 32 x = x * 4294967296 % 4294967296 + x / 1 := (congrArg rot1 (rot_31 x h)).trans (rot_step 2147483648 1 x rfl (by decide) h)
theorem rotN_32 (x : Nat) (h : x < 4294967296) : rotN 32 x = x := by rw [rot_32 x h]; omega
theorem rotN_mod (k x : Nat) (h : x < 4294967296) : rotN (k % 32) x = rotN k x := by
  induction k using Nat.strongRecOn with
  | _ k ih =>
    by_cases hk : k < 32
    · rw [Nat.mod_eq_of_lt hk]
    · have e : k % 32 = (k - 32) % 32 := by omega
      rw [e, ih (k - 32) (by omega)]
      have : k = (k - 32) + 32 := by omega
      conv => rhs; rw [this]
      rw [rotN_add, rotN_32 x h]
/-- turned by k places, in one formula -/
theorem rot_form (k x : Nat) (hk : k ≤ 31) (h : x < 4294967296) : rotN k x = x * 2 ^ k % 4294967296 + x / 2 ^ (32 - k) := by
  have hc : k = 0 ∨ k = 1 ∨ k = 2 ∨ k = 3 ∨ k = 4 ∨ k = 5 ∨ k = 6 ∨ k = 7 ∨ k = 8 ∨ k = 9 ∨ k = 10 ∨ k = 11 ∨ k = 12 ∨ k = 13 ∨ k = 14 ∨ k = 15 ∨ k = 16 ∨ k = 17 ∨ k = 18 ∨ k = 19 ∨ k = 20 ∨ k = 21 ∨ k = 22 ∨ k = 23 ∨ k = 24 ∨ k = 25 ∨ k = 26 ∨ k = 27 ∨ k = 28 ∨ k = 29 ∨ k = 30 ∨ k = 31 := by omega
  rcases hc with rfl | rfl | rfl | rfl | rfl | rfl | rfl | rfl | rfl | rfl | rfl | rfl | rfl | rfl | rfl | rfl | rfl | rfl | rfl | rfl | rfl | rfl | rfl | rfl | rfl | rfl | rfl | rfl | rfl | rfl | rfl | rfl
  · exact rot_0 x h
  · exact rot_1 x h
  · exact rot_2 x h
  · exact rot_3 x h
  · exact rot_4 x h
  · exact rot_5 x h
  · exact rot_6 x h
  · exact rot_7 x h
  · exact rot_8 x h
  · exact rot_9 x h
  · exact rot_10 x h
  · exact rot_11 x h
  · exact rot_12 x h
  · exact rot_13 x h
  · exact rot_14 x h
  · exact rot_15 x h
  · exact rot_16 x h
  · exact rot_17 x h
  · exact rot_18 x h
  · exact rot_19 x h
  · exact rot_20 x h
  · exact rot_21 x h
  · exact rot_22 x h
  · exact rot_23 x h
  · exact rot_24 x h
  · exact rot_25 x h
  · exact rot_26 x h
  · exact rot_27 x h
  · exact rot_28 x h
  · exact rot_29 x h
  · exact rot_30 x h
  · exact rot_31 x h
theorem rot_or (k x : Nat) (hk : k ≤ 31) (h : x < 4294967296) : (x * 2 ^ k % 4294967296) ||| (x / 2 ^ (32 - k)) = rotN k x := by
  rw [rot_form k x hk h]
  have e : (4294967296 : Nat) = 2 ^ k * 2 ^ (32 - k) := by rw [← Nat.pow_add, show k + (32 - k) = 32 from by omega]
  have h1 : x * 2 ^ k % 4294967296 = x % 2 ^ (32 - k) * 2 ^ k := by rw [e, Nat.mul_comm (2 ^ k), Nat.mul_mod_mul_right]
  have h2 : x / 2 ^ (32 - k) < 2 ^ k := by
    rw [Nat.div_lt_iff_lt_mul (Nat.two_pow_pos _), ← e]; exact h
  rw [h1, Nat.mul_comm]
  exact (Nat.two_pow_add_eq_or_of_lt h2 _).symm

/-- how many bits of the first n are set -/
def ones : Nat → Nat → Nat
  | 0, _ => 0
  | n + 1, x => ones n x + x / 2 ^ n % 2
def bitsSum (x : Nat) : Nat := ones 32 x
theorem bit_rot (x P Q : Nat) (h : x < 4294967296) (hPQ : P * Q = 2147483648) (h2 : 2 ∣ Q) : rot1 x / (2 * P) % 2 = x / P % 2 := by
  have e : rot1 x / 2 = x % 2147483648 := by unfold rot1; omega
  rw [← Nat.div_div_eq_div_mul, e, ← hPQ, Nat.mod_mul_right_div_self, Nat.mod_mod_of_dvd _ h2]
theorem ones_rot1 (x : Nat) (h : x < 4294967296) : ones 32 (rot1 x) = ones 32 x := by
  have hy : rot1 x = 2 * (x % 2147483648) + x / 2147483648 := by unfold rot1; omega
  have h0 : rot1 x / 1 % 2 = x / 2147483648 % 2 := by rw [hy]; omega
  have h1 : rot1 x / 2 % 2 = x / 1 % 2 := bit_rot x 1 2147483648 h rfl ⟨1073741824, rfl⟩
  have h2 : rot1 x / 4 % 2 = x / 2 % 2 := bit_rot x 2 1073741824 h rfl ⟨536870912, rfl⟩
  have h3 : rot1 x / 8 % 2 = x / 4 % 2 := bit_rot x 4 536870912 h rfl ⟨268435456, rfl⟩
  have h4 : rot1 x / 16 % 2 = x / 8 % 2 := bit_rot x 8 268435456 h rfl ⟨134217728, rfl⟩
  have h5 : rot1 x / 32 % 2 = x / 16 % 2 := bit_rot x 16 134217728 h rfl ⟨67108864, rfl⟩
  have h6 : rot1 x / 64 % 2 = x / 32 % 2 := bit_rot x 32 67108864 h rfl ⟨33554432, rfl⟩
  have h7 : rot1 x / 128 % 2 = x / 64 % 2 := bit_rot x 64 33554432 h rfl ⟨16777216, rfl⟩
  have h8 : rot1 x / 256 % 2 = x / 128 % 2 := bit_rot x 128 16777216 h rfl ⟨8388608, rfl⟩
  have h9 : rot1 x / 512 % 2 = x / 256 % 2 := bit_rot x 256 8388608 h rfl ⟨4194304, rfl⟩
  have h10 : rot1 x / 1024 % 2 = x / 512 % 2 := bit_rot x 512 4194304 h rfl ⟨2097152, rfl⟩
  have h11 : rot1 x / 2048 % 2 = x / 1024 % 2 := bit_rot x 1024 2097152 h rfl ⟨1048576, rfl⟩
  have h12 : rot1 x / 4096 % 2 = x / 2048 % 2 := bit_rot x 2048 1048576 h rfl ⟨524288, rfl⟩
  have h13 : rot1 x / 8192 % 2 = x / 4096 % 2 := bit_rot x 4096 524288 h rfl ⟨262144, rfl⟩
  have h14 : rot1 x / 16384 % 2 = x / 8192 % 2 := bit_rot x 8192 262144 h rfl ⟨131072, rfl⟩
  have h15 : rot1 x / 32768 % 2 = x / 16384 % 2 := bit_rot x 16384 131072 h rfl ⟨65536, rfl⟩
  have h16 : rot1 x / 65536 % 2 = x / 32768 % 2 := bit_rot x 32768 65536 h rfl ⟨32768, rfl⟩
  have h17 : rot1 x / 131072 % 2 = x / 65536 % 2 := bit_rot x 65536 32768 h rfl ⟨16384, rfl⟩
  have h18 : rot1 x / 262144 % 2 = x / 131072 % 2 := bit_rot x 131072 16384 h rfl ⟨8192, rfl⟩
  have h19 : rot1 x / 524288 % 2 = x / 262144 % 2 := bit_rot x 262144 8192 h rfl ⟨4096, rfl⟩
  have h20 : rot1 x / 1048576 % 2 = x / 524288 % 2 := bit_rot x 524288 4096 h rfl ⟨2048, rfl⟩
  have h21 : rot1 x / 2097152 % 2 = x / 1048576 % 2 := bit_rot x 1048576 2048 h rfl ⟨1024, rfl⟩
  have h22 : rot1 x / 4194304 % 2 = x / 2097152 % 2 := bit_rot x 2097152 1024 h rfl ⟨512, rfl⟩
  have h23 : rot1 x / 8388608 % 2 = x / 4194304 % 2 := bit_rot x 4194304 512 h rfl ⟨256, rfl⟩
  have h24 : rot1 x / 16777216 % 2 = x / 8388608 % 2 := bit_rot x 8388608 256 h rfl ⟨128, rfl⟩
  have h25 : rot1 x / 33554432 % 2 = x / 16777216 % 2 := bit_rot x 16777216 128 h rfl ⟨64, rfl⟩
  have h26 : rot1 x / 67108864 % 2 = x / 33554432 % 2 := bit_rot x 33554432 64 h rfl ⟨32, rfl⟩
  have h27 : rot1 x / 134217728 % 2 = x / 67108864 % 2 := bit_rot x 67108864 32 h rfl ⟨16, rfl⟩
  have h28 : rot1 x / 268435456 % 2 = x / 134217728 % 2 := bit_rot x 134217728 16 h rfl ⟨8, rfl⟩
  have h29 : rot1 x / 536870912 % 2 = x / 268435456 % 2 := bit_rot x 268435456 8 h rfl ⟨4, rfl⟩
  have h30 : rot1 x / 1073741824 % 2 = x / 536870912 % 2 := bit_rot x 536870912 4 h rfl ⟨2, rfl⟩
  have h31 : rot1 x / 2147483648 % 2 = x / 1073741824 % 2 := bit_rot x 1073741824 2 h rfl ⟨1, rfl⟩
  simp only [ones, Nat.reducePow, h0, h1, h2, h3, h4, h5, h6, h7, h8, h9, h10, h11, h12, h13, h14, h15, h16, h17, h18, h19, h20, h21, h22, h23, h24, h25, h26, h27, h28, h29, h30, h31]
  omega
theorem ones_rot (k x : Nat) (h : x < 4294967296) : ones 32 (rotN k x) = ones 32 x := by
  induction k with
  | zero => rfl
  | succ k ih => show ones 32 (rot1 _) = _; rw [ones_rot1 _ (rotN_lt k h), ih]

def tabL : List Nat := [3614090360, 3905402710, 606105819, 3250441966, 4118548399, 1200080426, 2821735955, 4249261313, 1770035416, 2336552879, 4294925233, 2304563134, 1804603682, 4254626195, 2792965006, 1236535329, 4129170786, 3225465664, 643717713, 3921069994, 3593408605, 38016083, 3634488961, 3889429448, 568446438, 3275163606, 4107603335, 1163531501, 2850285829, 4243563512, 1735328473, 2368359562, 4294588738, 2272392833, 1839030562, 4259657740, 2763975236, 1272893353, 4139469664, 3200236656, 681279174, 3936430074, 3572445317, 76029189, 3654602809, 3873151461, 530742520, 3299628645, 4096336452, 1126891415, 2878612391, 4237533241, 1700485571, 2399980690, 4293915773, 2240044497, 1873313359, 4264355552, 2734768916, 1309151649, 4149444226, 3174756917, 718787259, 3951481745]
def turnL : List Nat := [7, 12, 17, 22, 5, 9, 14, 20, 4, 11, 16, 23, 6, 10, 15, 21]
def not32 (x : Nat) : Nat := 4294967295 - x
def mixF (i b c d : Nat) : Nat := if i < 16 then (b &&& c) ||| (not32 b &&& d) else if i < 32 then (b &&& d) ||| (c &&& not32 d) else if i < 48 then b ^^^ c ^^^ d else c ^^^ (b ||| not32 d)
def mixK (i : Nat) : Nat := if i < 16 then i else if i < 32 then (5 * i + 1) % 16 else if i < 48 then (3 * i + 5) % 16 else 7 * i % 16
structure St where
  a : Nat
  b : Nat
  c : Nat
  d : Nat
def turnOf (i : Nat) : Nat := turnL.getD (i / 16 * 4 + i % 4) 0
def stepB (w : List Nat) (i : Nat) (s : St) : Nat := (s.b + rotN (turnOf i) ((s.a + mixF i s.b s.c s.d + tabL.getD i 0 + w.getD (mixK i) 0) % 4294967296)) % 4294967296
def stepS (w : List Nat) (i : Nat) (s : St) : St := ⟨s.d, stepB w i s, s.b, s.c⟩
def stepsS (w : List Nat) (s : St) : Nat → St
  | 0 => s
  | n + 1 => stepS w n (stepsS w s n)
def onS (s : St) (w : List Nat) : St := ⟨(s.a + (stepsS w s 64).a) % 4294967296, (s.b + (stepsS w s 64).b) % 4294967296, (s.c + (stepsS w s 64).c) % 4294967296, (s.d + (stepsS w s 64).d) % 4294967296⟩
structure St.Ok (s : St) : Prop where
  a : s.a < 4294967296
  b : s.b < 4294967296
  c : s.c < 4294967296
  d : s.d < 4294967296
theorem stepS_ok (w : List Nat) (i : Nat) {s : St} (h : s.Ok) : (stepS w i s).Ok := ⟨h.d, Nat.mod_lt _ (by decide), h.b, h.c⟩
theorem stepsS_ok (w : List Nat) {s : St} (h : s.Ok) (n : Nat) : (stepsS w s n).Ok := by
  induction n with
  | zero => exact h
  | succ n ih => exact stepS_ok w n ih
theorem onS_ok (w : List Nat) (s : St) : (onS s w).Ok := ⟨Nat.mod_lt _ (by decide), Nat.mod_lt _ (by decide), Nat.mod_lt _ (by decide), Nat.mod_lt _ (by decide)⟩
theorem mixF_lt (i : Nat) {b c d : Nat} (hb : b < 4294967296) (hc : c < 4294967296) (hd : d < 4294967296) : mixF i b c d < 4294967296 := by
  have hn : ∀ x : Nat, not32 x < 4294967296 := fun x => by unfold not32; omega
  unfold mixF
  split
  · exact Nat.or_lt_two_pow (n := 32) (Nat.and_lt_two_pow (n := 32) _ hc) (Nat.and_lt_two_pow (n := 32) _ hd)
  · split
    · exact Nat.or_lt_two_pow (n := 32) (Nat.and_lt_two_pow (n := 32) _ hd) (Nat.and_lt_two_pow (n := 32) _ (hn _))
    · split
      · exact Nat.xor_lt_two_pow (n := 32) (Nat.xor_lt_two_pow (n := 32) hb hc) hd
      · exact Nat.xor_lt_two_pow (n := 32) hc (Nat.or_lt_two_pow (n := 32) hb (hn _))
theorem mixK_lt (i : Nat) : mixK i < 16 := by unfold mixK; split <;> (try split) <;> (try split) <;> omega

/-- a block's word -/
def wordAt (l : List UInt8) (j : Nat) : Nat := (l.getD (4 * j) 0).toNat + (l.getD (4 * j + 1) 0).toNat * 256 + (l.getD (4 * j + 2) 0).toNat * 65536 + (l.getD (4 * j + 3) 0).toNat * 16777216
def wordsL (l : List UInt8) : List Nat := (List.range 16).map (wordAt l)
def init : St := ⟨1732584193, 4023233417, 2562383102, 271733878⟩
def mdAt (l : List UInt8) : Nat → St
  | 0 => init
  | k + 1 => onS (mdAt l k) (wordsL (l.drop (64 * k)))
theorem init_ok : init.Ok := ⟨by decide, by decide, by decide, by decide⟩
theorem mdAt_ok (l : List UInt8) (k : Nat) : (mdAt l k).Ok := by
  cases k with
  | zero => exact init_ok
  | succ k => exact onS_ok _ _
def zerosN (n : Nat) : Nat := (119 - n % 64) % 64
def longL (n : Nat) : List UInt8 := (List.range 8).map fun i => UInt8.ofNat (n * 8 / 256 ^ i % 256)
def tailL (n : Nat) : List UInt8 := 128 :: (List.replicate (zerosN n) 0 ++ longL n)
def padL (l : List UInt8) : List UInt8 := l ++ tailL l.length
theorem tailL_length (n : Nat) : (tailL n).length = zerosN n + 9 := by simp [tailL, longL]
theorem padL_length (l : List UInt8) : (padL l).length % 64 = 0 ∧ (padL l).length = l.length + zerosN l.length + 9 ∧ zerosN l.length < 64 := by
  have h : (padL l).length = l.length + zerosN l.length + 9 := by unfold padL; rw [List.length_append, tailL_length]; omega
  rw [h]
  unfold zerosN
  omega
def St.get (s : St) (i : Nat) : Nat := if i = 0 then s.a else if i = 1 then s.b else if i = 2 then s.c else s.d
def outAt (s : St) (i : Nat) : Nat := s.get (i / 4) / 256 ^ (i % 4) % 256
def outL (s : St) : List UInt8 := (List.range 16).map fun i => UInt8.ofNat (outAt s i)
def md5S (l : List UInt8) : St := mdAt (padL l) ((padL l).length / 64)
def md5 (l : List UInt8) : List UInt8 := outL (md5S l)
theorem outL_length (s : St) : (outL s).length = 16 := by simp [outL]
theorem md5_length (l : List UInt8) : (md5 l).length = 16 := outL_length _
end Go.Proofs.Ytcdencpkgfehlaa

/- Turning, the tables and the mixing of a step: the program's and the document's. -/
namespace Go.Proofs.Ytcdencpkgfehlaa
open Go.RowKit
set_option linter.unusedVariables false

theorem and31 (n : Int) : bits .and .i64 n 31 = n % 32 := by
  show IntKind.i64.wrap ((BitVec.ofInt 64 n &&& BitVec.ofInt 64 31).toNat : Int) = _
  have h31 : (BitVec.ofInt 64 31).toNat = 2 ^ 5 - 1 := by decide
  rw [BitVec.toNat_and, h31, Nat.and_two_pow_sub_one_eq_mod, BitVec.toNat_ofInt, IntKind.wrap_i64]
  simp only [Nat.reducePow]
  omega
theorem u64_in (n : Int) (h0 : 0 ≤ n) (h1 : n < 18446744073709551616) : IntKind.u64.wrap n = n := by rw [IntKind.wrap_u64]; omega

theorem rotate_any (x : Nat) (n : Int) (w : World) (hx : x < 4294967296) :
    Calls Try.prog 100 #[.int .u32 x, .int .i64 n] w fun e w' => e = .returned (.int .u32 (rotN (n % 32).toNat x : Nat)) ∧ w = w' := by
  go_enter Try.func100, Try.ntmps100
  go_wp2
  go_ret
  refine ⟨rint ?_, rfl⟩
  obtain ⟨k, hk⟩ : ∃ k : Nat, n % 32 = k := ⟨(n % 32).toNat, by omega⟩
  have h31 : k ≤ 31 := by omega
  have e1 : IntKind.u64.wrap (k : Int) = (k : Int) := u64_in _ (by omega) (by omega)
  have e2 : IntKind.u64.wrap (32 - (k : Int)) = ((32 - k : Nat) : Int) := by rw [u64_in _ (by omega) (by omega)]; omega
  rw [and31, hk, e1, e2, Int.toNat_natCast, Int.toNat_natCast, Nat.min_eq_left (by omega), Nat.min_eq_left (by omega), ← rot_or k x h31 hx]
  have h := (bits_nat .u32 32 (by decide) (fun n h0 h1 => by rw [IntKind.wrap_u32]; simp only [Int.reducePow] at h1; omega) (x * 2 ^ k % 4294967296) (x / 2 ^ (32 - k)) (Nat.mod_lt _ (by decide)) (Nat.lt_of_le_of_lt (Nat.div_le_self _ _) hx)).2
  rw [← h]
  congr 1

def rotI (n X : Int) : Int := ((rotN (n % 32).toNat X.toNat : Nat) : Int)
theorem rotI_bd (n X : Int) (h0 : 0 ≤ X) (h1 : X < 4294967296) : 0 ≤ rotI n X ∧ rotI n X < 4294967296 := by
  have := rotN_lt (n % 32).toNat (show X.toNat < 4294967296 by omega)
  unfold rotI; omega
theorem rotate_i (X n : Int) (w : World) (x0 : 0 ≤ X) (x1 : X < 4294967296) :
    Calls Try.prog 100 #[.int .u32 X, .int .i64 n] w fun e w' => e = .returned (.int .u32 (rotI n X)) ∧ w = w' := by
  obtain ⟨x, rfl⟩ : ∃ k : Nat, X = k := ⟨X.toNat, by omega⟩
  unfold rotI
  rw [Int.toNat_natCast]
  exact rotate_any x n w (by omega)
theorem rotI_tmod (n r X : Int) (h : n % 32 = r % 32) : rotI n X = rotI r X := by unfold rotI; rw [h]

end Go.Proofs.Ytcdencpkgfehlaa

/- The tables of a step. -/
namespace Go.Proofs.Ytcdencpkgfehlaa
open Go.RowKit
set_option linter.unusedVariables false

theorem nat_get {k : IntKind} (l : List Nat) (i : Nat) (h : i < (l.map fun n : Nat => Value.int k (n : Int)).length) : (l.map fun n : Nat => Value.int k (n : Int))[i] = Value.int k (l.getD i 0 : Nat) := by
  have h' : i < l.length := by simpa using h
  simp [List.getD, List.getElem?_eq_getElem h']
theorem dturn_any (i : Nat) (w : World) (hi : i < 64) :
    Calls Try.prog 102 #[.int .i64 i] w fun e w' => e = .returned (.int .i64 (turnOf i : Nat)) ∧ Fr [] w w' := by
  have b1 : i / 16 * 4 + i % 4 < 16 := by omega
  go_enter Try.func102, Try.ntmps102
  go_wp2
  go_ret
  exact ⟨congrArg Ending.returned (nat_get (k := .i64) turnL (i / 16 * 4 + i % 4) b1), (Fr.refl _ _).alloc _⟩
def tabC : Array Value := (tabL.map fun n : Nat => Value.int .u32 (n : Int)).toArray
def tabZ : Array Value := Array.replicate 64 (.int .u32 0)
theorem infoTab : (Try.prog.info? 170).map (·.size) = some 64 := by kernel_rfl
theorem tabC_one : tabC.all (·.oneCell') = true := by decide +kernel
theorem mkTab (w : World) : (Instr.alloc 170 true (.tuple #[])).run Try.prog w = .ok (.pointer (some ⟨w.heap.size, 0, none⟩)) (w.alloc (.cells tabZ 170 (0, 0))) := by kernel_rfl
theorem tabC_at (w : World) (i : Nat) (hi : i < 64) : (w.alloc (.cells tabC 170 (0, 0))).cell? ⟨w.heap.size, i, none⟩ = some (.int .u32 (tabL.getD i 0 : Nat)) := by
  refine (Blk.new w tabC 170).c i _ ?_
  unfold tabC
  rw [List.getElem?_toArray, List.getElem?_map, List.getElem?_eq_getElem (show i < tabL.length from hi)]
  simp [List.getD, List.getElem?_eq_getElem (show i < tabL.length from hi)]
set_option maxRecDepth 100000 in
theorem table_any (i : Nat) (w : World) (hi : i < 64) :
    Calls Try.prog 101 #[.int .i64 i] w fun e w' => e = .returned (.int .u32 (tabL.getD i 0 : Nat)) ∧ Fr [] w w' := by
  have hc := tabC_at w i hi
  go_enter Try.func101, Try.ntmps101
  go_wp2_with (refine wpList_lit rfl rfl rfl 170 _ (.tmp 3) (.tmp 4) rfl rfl rfl tabC tabZ (fun w => by kernel_rfl) mkTab rfl infoTab tabC_one rfl rfl ?_)
  go_ret
  exact ⟨rfl, (Fr.refl _ _).alloc _⟩
end Go.Proofs.Ytcdencpkgfehlaa

/- The mixing of a step. -/
namespace Go.Proofs.Ytcdencpkgfehlaa
open Go.RowKit
set_option linter.unusedVariables false

def orA (b c d : Int) : Int := bits .or .u32 (bits .and .u32 b c) (bits .and .u32 (bits .xor .u32 IntKind.u32.max b) d)
def orB (b c d : Int) : Int := bits .or .u32 (bits .and .u32 b d) (bits .andNot .u32 c d)
def orC (b c d : Int) : Int := bits .xor .u32 (bits .xor .u32 b c) d
def orD (b c d : Int) : Int := bits .xor .u32 c (bits .or .u32 b (bits .xor .u32 IntKind.u32.max d))
theorem rtup {a b : Value} {x : Int} {y : Int} {k k' : IntKind} (h1 : a = .int k x) (h2 : b = .int k' y) : Ending.returned (.tuple #[a, b]) = .returned (.tuple #[.int k x, .int k' y]) := by rw [h1, h2]

theorem mix_0 (i b c d : Int) (w : World) (i0 : 0 ≤ i) (i1 : i < 16) :
    Calls Try.prog 99 #[.int .i64 i, .int .u32 b, .int .u32 c, .int .u32 d] w fun e w' => e = .returned (.tuple #[.int .u32 (orA b c d), .int .i64 i]) ∧ w = w' := by
  have hq : (i / 16 == 0) = true := by rw [beq_iff_eq]; omega
  go_enter Try.func99, Try.ntmps99
  go_wp2
  all_goals
    go_ret2
    exact ⟨rfl, rfl⟩
theorem mix_1 (i b c d : Int) (w : World) (i0 : 16 ≤ i) (i1 : i < 32) :
    Calls Try.prog 99 #[.int .i64 i, .int .u32 b, .int .u32 c, .int .u32 d] w fun e w' => e = .returned (.tuple #[.int .u32 (orB b c d), .int .i64 ((5 * i + 1) % 16)]) ∧ w = w' := by
  have hq : (i / 16 == 0) = false := by rw [beq_eq_false_iff_ne]; omega
  have hq1 : (i / 16 == 1) = true := by rw [beq_iff_eq]; omega
  go_enter Try.func99, Try.ntmps99
  go_wp2
  all_goals
    go_ret2
    exact ⟨rfl, rfl⟩
theorem mix_2 (i b c d : Int) (w : World) (i0 : 32 ≤ i) (i1 : i < 48) :
    Calls Try.prog 99 #[.int .i64 i, .int .u32 b, .int .u32 c, .int .u32 d] w fun e w' => e = .returned (.tuple #[.int .u32 (orC b c d), .int .i64 ((3 * i + 5) % 16)]) ∧ w = w' := by
  have hq : (i / 16 == 0) = false := by rw [beq_eq_false_iff_ne]; omega
  have hq1 : (i / 16 == 1) = false := by rw [beq_eq_false_iff_ne]; omega
  have hq2 : (i / 16 == 2) = true := by rw [beq_iff_eq]; omega
  go_enter Try.func99, Try.ntmps99
  go_wp2
  all_goals
    go_ret2
    exact ⟨rfl, rfl⟩
theorem mix_3 (i b c d : Int) (w : World) (i0 : 48 ≤ i) (i1 : i < 64) :
    Calls Try.prog 99 #[.int .i64 i, .int .u32 b, .int .u32 c, .int .u32 d] w fun e w' => e = .returned (.tuple #[.int .u32 (orD b c d), .int .i64 (7 * i % 16)]) ∧ w = w' := by
  have hq : (i / 16 == 0) = false := by rw [beq_eq_false_iff_ne]; omega
  have hq1 : (i / 16 == 1) = false := by rw [beq_eq_false_iff_ne]; omega
  have hq2 : (i / 16 == 2) = false := by rw [beq_eq_false_iff_ne]; omega
  go_enter Try.func99, Try.ntmps99
  go_wp2
  all_goals
    go_ret2
    exact ⟨rfl, rfl⟩

theorem not32_eq (x : Nat) (h : x < 4294967296) : 4294967295 ^^^ x = not32 x := by
  have e : 2 ^ 32 - 1 ^^^ x = 2 ^ 32 - (x + 1) := by
    apply Nat.eq_of_testBit_eq
    intro i
    rw [Nat.testBit_xor, Nat.testBit_two_pow_sub_one, Nat.testBit_two_pow_sub_succ (by simpa using h)]
    by_cases hi : i < 32
    · simp [hi]
    · have : x.testBit i = false := Nat.testBit_lt_two_pow (Nat.lt_of_lt_of_le h (Nat.pow_le_pow_right (n := 2) (by omega) (show 32 ≤ i by omega)))
      simp [hi, this]
  simp only [Nat.reducePow, Nat.reduceSub] at e
  unfold not32
  omega
theorem not32_lt (x : Nat) : not32 x < 4294967296 := by unfold not32; omega
theorem u32_not (x : Nat) (h : x < 4294967296) : bits .xor .u32 IntKind.u32.max (x : Int) = (not32 x : Nat) := by
  rw [← not32_eq x h]
  exact u32_xor_nat 4294967295 x (by omega) h
theorem and32 {a b : Nat} (hb : b < 4294967296) : a &&& b < 4294967296 := Nat.and_lt_two_pow (n := 32) _ hb
theorem or32 {a b : Nat} (ha : a < 4294967296) (hb : b < 4294967296) : a ||| b < 4294967296 := Nat.or_lt_two_pow (n := 32) ha hb
theorem xor32 {a b : Nat} (ha : a < 4294967296) (hb : b < 4294967296) : a ^^^ b < 4294967296 := Nat.xor_lt_two_pow (n := 32) ha hb

def mixI (i : Nat) (b c d : Int) : Int := ((mixF i b.toNat c.toNat d.toNat : Nat) : Int)
theorem mixI_bd (i : Nat) (b c d : Int) (b0 : 0 ≤ b) (b1 : b < 4294967296) (c0 : 0 ≤ c) (c1 : c < 4294967296) (d0 : 0 ≤ d) (d1 : d < 4294967296) : 0 ≤ mixI i b c d ∧ mixI i b c d < 4294967296 := by
  have := mixF_lt i (b := b.toNat) (c := c.toNat) (d := d.toNat) (by omega) (by omega) (by omega)
  unfold mixI; omega
theorem mix_any (i : Nat) (b c d : Int) (w : World) (hi : i < 64) (b0 : 0 ≤ b) (b1 : b < 4294967296) (c0 : 0 ≤ c) (c1 : c < 4294967296) (d0 : 0 ≤ d) (d1 : d < 4294967296) :
    Calls Try.prog 99 #[.int .i64 i, .int .u32 b, .int .u32 c, .int .u32 d] w fun e w' => e = .returned (.tuple #[.int .u32 (mixI i b c d), .int .i64 (mixK i : Nat)]) ∧ w = w' := by
  obtain ⟨b, rfl⟩ : ∃ k : Nat, b = k := ⟨b.toNat, by omega⟩
  obtain ⟨c, rfl⟩ : ∃ k : Nat, c = k := ⟨c.toNat, by omega⟩
  obtain ⟨d, rfl⟩ : ∃ k : Nat, d = k := ⟨d.toNat, by omega⟩
  have b1 : b < 4294967296 := by omega
  have c1 : c < 4294967296 := by omega
  have d1 : d < 4294967296 := by omega
  unfold mixI mixF mixK
  rw [Int.toNat_natCast, Int.toNat_natCast, Int.toNat_natCast]
  by_cases h0 : i < 16
  · rw [if_pos h0, if_pos h0]
    refine (mix_0 i b c d w (by omega) (by omega)).mono ?_
    rintro e w' ⟨rfl, rfl⟩
    refine ⟨rtup ?_ rfl, rfl⟩
    unfold orA
    rw [u32_not b b1, u32_and_nat b c b1 c1, u32_and_nat _ d (not32_lt b) d1, u32_or_nat _ _ (and32 c1) (and32 d1)]
  · rw [if_neg h0, if_neg h0]
    by_cases h1 : i < 32
    · rw [if_pos h1, if_pos h1]
      refine (mix_1 i b c d w (by omega) (by omega)).mono ?_
      rintro e w' ⟨rfl, rfl⟩
      refine ⟨rtup ?_ (by congr 1), rfl⟩
      unfold orB
      rw [u32_and_nat b d b1 d1, u32_andNot_nat c d c1 d1]
      exact congrArg _ (u32_or_nat (b &&& d) (c &&& not32 d) (and32 d1) (and32 (not32_lt d)))
    · rw [if_neg h1, if_neg h1]
      by_cases h2 : i < 48
      · rw [if_pos h2, if_pos h2]
        refine (mix_2 i b c d w (by omega) (by omega)).mono ?_
        rintro e w' ⟨rfl, rfl⟩
        refine ⟨rtup ?_ (by congr 1), rfl⟩
        unfold orC
        rw [u32_xor_nat b c b1 c1, u32_xor_nat _ d (xor32 b1 c1) d1]
      · rw [if_neg h2, if_neg h2]
        refine (mix_3 i b c d w (by omega) (by omega)).mono ?_
        rintro e w' ⟨rfl, rfl⟩
        refine ⟨rtup ?_ (by congr 1), rfl⟩
        unfold orD
        rw [u32_not d d1, u32_or_nat b _ b1 (not32_lt d), u32_xor_nat c _ c1 (or32 b1 (not32_lt d))]
end Go.Proofs.Ytcdencpkgfehlaa

/- A block's words. -/
namespace Go.Proofs.Ytcdencpkgfehlaa
open Go.RowKit
set_option linter.unusedVariables false

def btN (l : List UInt8) (i : Nat) : Nat := (l.getD i 0).toNat
/-- of the j-th word what the first k bytes give -/
def wordP (l : List UInt8) (k j : Nat) : Nat := (if 4 * j < k then btN l (4 * j) else 0) + (if 4 * j + 1 < k then btN l (4 * j + 1) * 256 else 0) + (if 4 * j + 2 < k then btN l (4 * j + 2) * 65536 else 0) + (if 4 * j + 3 < k then btN l (4 * j + 3) * 16777216 else 0)
theorem btN_lt (l : List UInt8) (i : Nat) : btN l i < 256 := by unfold btN; have := (l.getD i 0).toNat_lt; omega
theorem wordP_end (l : List UInt8) (j : Nat) (hj : j < 16) : wordP l 64 j = wordAt l j := by
  unfold wordP wordAt
  rw [if_pos (by omega), if_pos (by omega), if_pos (by omega), if_pos (by omega)]
  rfl
theorem wordP_zero (l : List UInt8) (j : Nat) : wordP l 0 j = 0 := by simp [wordP]
theorem wordP_other (l : List UInt8) (k j : Nat) (h : j ≠ k / 4) : wordP l (k + 1) j = wordP l k j := by
  unfold wordP
  have e : ∀ t, t < 4 → (4 * j + t < k + 1 ↔ 4 * j + t < k) := fun t ht => by omega
  have e0 := e 0 (by omega)
  simp only [Nat.add_zero] at e0
  simp only [e0, e 1 (by omega), e 2 (by omega), e 3 (by omega)]
theorem wordP_lt (l : List UInt8) (k : Nat) : wordP l k (k / 4) < 2 ^ (8 * (k % 4)) := by
  have b0 := btN_lt l (4 * (k / 4))
  have b1 := btN_lt l (4 * (k / 4) + 1)
  have b2 := btN_lt l (4 * (k / 4) + 2)
  unfold wordP
  have hr : k % 4 = 0 ∨ k % 4 = 1 ∨ k % 4 = 2 ∨ k % 4 = 3 := by omega
  rw [if_neg (show ¬ 4 * (k / 4) + 3 < k by omega)]
  rcases hr with h | h | h | h <;> rw [h]
  · rw [if_neg (by omega), if_neg (by omega), if_neg (by omega)]; decide
  · rw [if_pos (by omega), if_neg (by omega), if_neg (by omega)]; omega
  · rw [if_pos (by omega), if_pos (by omega), if_neg (by omega)]; omega
  · rw [if_pos (by omega), if_pos (by omega), if_pos (by omega)]; omega
theorem wordP_next (l : List UInt8) (k : Nat) : wordP l (k + 1) (k / 4) = wordP l k (k / 4) ||| (btN l k * 2 ^ (8 * (k % 4))) := by
  have hlt := wordP_lt l k
  have hadd : wordP l (k + 1) (k / 4) = wordP l k (k / 4) + btN l k * 2 ^ (8 * (k % 4)) := by
    clear hlt
    unfold wordP
    have hr : k % 4 = 0 ∨ k % 4 = 1 ∨ k % 4 = 2 ∨ k % 4 = 3 := by omega
    rcases hr with h | h | h | h <;> rw [h]
    · rw [if_pos (show 4 * (k / 4) < k + 1 by omega), if_neg (show ¬ 4 * (k / 4) + 1 < k + 1 by omega), if_neg (show ¬ 4 * (k / 4) + 2 < k + 1 by omega), if_neg (show ¬ 4 * (k / 4) + 3 < k + 1 by omega), if_neg (show ¬ 4 * (k / 4) < k by omega), if_neg (show ¬ 4 * (k / 4) + 1 < k by omega), if_neg (show ¬ 4 * (k / 4) + 2 < k by omega), if_neg (show ¬ 4 * (k / 4) + 3 < k by omega)]
      rw [show 4 * (k / 4) = k from by omega]; omega
    · rw [if_pos (show 4 * (k / 4) < k + 1 by omega), if_pos (show 4 * (k / 4) + 1 < k + 1 by omega), if_neg (show ¬ 4 * (k / 4) + 2 < k + 1 by omega), if_neg (show ¬ 4 * (k / 4) + 3 < k + 1 by omega), if_pos (show 4 * (k / 4) < k by omega), if_neg (show ¬ 4 * (k / 4) + 1 < k by omega), if_neg (show ¬ 4 * (k / 4) + 2 < k by omega), if_neg (show ¬ 4 * (k / 4) + 3 < k by omega)]
      rw [show 4 * (k / 4) + 1 = k from by omega]; omega
    · rw [if_pos (show 4 * (k / 4) < k + 1 by omega), if_pos (show 4 * (k / 4) + 1 < k + 1 by omega), if_pos (show 4 * (k / 4) + 2 < k + 1 by omega), if_neg (show ¬ 4 * (k / 4) + 3 < k + 1 by omega), if_pos (show 4 * (k / 4) < k by omega), if_pos (show 4 * (k / 4) + 1 < k by omega), if_neg (show ¬ 4 * (k / 4) + 2 < k by omega), if_neg (show ¬ 4 * (k / 4) + 3 < k by omega)]
      rw [show 4 * (k / 4) + 2 = k from by omega]; omega
    · rw [if_pos (show 4 * (k / 4) < k + 1 by omega), if_pos (show 4 * (k / 4) + 1 < k + 1 by omega), if_pos (show 4 * (k / 4) + 2 < k + 1 by omega), if_pos (show 4 * (k / 4) + 3 < k + 1 by omega), if_pos (show 4 * (k / 4) < k by omega), if_pos (show 4 * (k / 4) + 1 < k by omega), if_pos (show 4 * (k / 4) + 2 < k by omega), if_neg (show ¬ 4 * (k / 4) + 3 < k by omega)]
      rw [show 4 * (k / 4) + 3 = k from by omega]; omega
  rw [hadd, Nat.add_comm, Nat.mul_comm, Nat.two_pow_add_eq_or_of_lt hlt, Nat.or_comm]
def wordsC (l : List UInt8) (k : Nat) : Array Value := ((List.range 16).map fun j => Value.int .u32 (wordP l k j : Nat)).toArray
theorem wordsC_size (l : List UInt8) (k : Nat) : (wordsC l k).size = 16 := by simp [wordsC]
theorem wordsC_get (l : List UInt8) (k j : Nat) (hj : j < 16) : (wordsC l k)[j]? = some (.int .u32 (wordP l k j : Nat)) := by simp [wordsC, hj]
theorem wordsC_next (l : List UInt8) (k : Nat) (hk : k < 64) : (wordsC l k).setIfInBounds (k / 4) (.int .u32 ((wordP l k (k / 4) ||| (btN l k * 2 ^ (8 * (k % 4))) : Nat) : Int)) = wordsC l (k + 1) := by
  rw [← wordP_next]
  apply Array.ext
  · simp [wordsC]
  · intro j h1 h2
    rw [wordsC_size] at h2
    rw [Array.getElem_setIfInBounds (by rw [wordsC_size]; exact h2)]
    by_cases h : k / 4 = j
    · subst h
      simp [wordsC]
    · rw [if_neg h]
      simp [wordsC, wordP_other l k j (fun e => h e.symm)]
/-- the words as an array's cells -/
def arr32 (ws : List Nat) : Array Value := (ws.map fun n : Nat => Value.int .u32 (n : Int)).toArray
theorem wordsC_end (l : List UInt8) : wordsC l 64 = arr32 (wordsL l) := by
  have h : ((List.range 16).map fun j => Value.int .u32 (wordP l 64 j : Nat)) = (((List.range 16).map (wordAt l)).map fun n : Nat => Value.int .u32 (n : Int)) := by
    rw [List.map_map]
    apply List.map_congr_left
    intro j hj
    rw [wordP_end l j (List.mem_range.1 hj), Function.comp]
  exact congrArg List.toArray h
theorem wordsC_zero (l : List UInt8) : wordsC l 0 = #[.int .u32 0, .int .u32 0, .int .u32 0, .int .u32 0, .int .u32 0, .int .u32 0, .int .u32 0, .int .u32 0, .int .u32 0, .int .u32 0, .int .u32 0, .int .u32 0, .int .u32 0, .int .u32 0, .int .u32 0, .int .u32 0] := by
  simp [wordsC, wordP_zero, List.range_succ]

theorem word_or (x b r : Nat) (hx : x < 4294967296) (hb : b < 256) (hr : r < 4) : bits .or .u32 (x : Int) ((b : Int) % 4294967296 * 2 ^ (8 * r) % 4294967296) = ((x ||| b * 2 ^ (8 * r) : Nat) : Int) := by
  have h : r = 0 ∨ r = 1 ∨ r = 2 ∨ r = 3 := by omega
  have e : ((b : Int) % 4294967296 * 2 ^ (8 * r) % 4294967296) = ((b * 2 ^ (8 * r) : Nat) : Int) ∧ b * 2 ^ (8 * r) < 4294967296 := by
    rcases h with rfl | rfl | rfl | rfl <;> (simp only [Nat.mul_zero, Nat.mul_one, Nat.reduceMul, Nat.reducePow, Int.reducePow, Int.pow_zero, Nat.pow_zero]; omega)
  rw [e.1]
  exact u32_or_nat _ _ hx e.2
theorem info16 : (Try.prog.info? 146).map (·.size) = some 16 := by kernel_rfl
set_option maxHeartbeats 1000000 in
theorem words_any (l : List UInt8) (w : World) (hl : 64 ≤ l.length) (hl2 : l.length ≤ 1000000) :
    Calls Try.prog 88 #[.string (B l)] w fun e w' => e = .returned (.agg (arr32 (wordsL l))) ∧ Fr [] w w' := by
  go_enter Try.func88, Try.ntmps88
  go_wp2
  have hz := wordsC_zero l
  go_loopw [5] (fun cv wr => ∃ k : Nat, k ≤ 64 ∧ cv = .int .i64 k ∧ Blk wr (w.heap.size + 1) (wordsC l k) 146 ∧ Blk wr w.heap.size (wordsC l 0) 146 ∧ Fr [] w wr) (fun cv _ => 64 - (intOf cv).toNat)
  case atStart =>
    rw [← hz]
    exact ⟨0, by omega, rfl, by have := Blk.new (w.alloc (.cells (wordsC l 0) 146)) (wordsC l 0) 146; simpa using this, (Blk.new _ _ _).alloc _, ((Fr.refl _ _).alloc _).alloc _⟩
  case round =>
    obtain ⟨k, hk, rfl, hB, hB0, hF⟩ := hrel
    by_cases hlt : k < 64
    · have hc := hB.c (k / 4) _ (wordsC_get l k (k / 4) (by omega))
      have hf := hB.fz (k / 4)
      obtain ⟨X, hX⟩ : ∃ X : Int, ((wordP l k (k / 4) : Nat) : Int) = X := ⟨_, rfl⟩
      rw [hX] at hc
      have HX := Lib.hid hX
      have Hz := Lib.hid hz
      have i1 : (k : Int) < l.length := by omega
      have i2 : IntKind.i64.wrap ((k : Int) / 4) = (k : Int) / 4 := IntWalk.i64_in _ (by omega)
      clear hX hz
      go_wp2
      go_region
      all_goals go_wp2
      go_roundw
      case rel =>
        have hx := wordP_lt l k
        have hp : 2 ^ (8 * (k % 4)) ≤ 2 ^ 24 := Nat.pow_le_pow_right (by omega) (by omega)
        have e : bits BinOp.or IntKind.u32 X ((l[k].toNat : Int) % 4294967296 * 2 ^ (8 * (k % 4)) % 4294967296) = ((wordP l k (k / 4) ||| (btN l k * 2 ^ (8 * (k % 4))) : Nat) : Int) := by
          have eb : btN l k = l[k].toNat := by unfold btN; rw [List.getD, List.getElem?_eq_getElem (by omega)]; rfl
          rw [eb, ← HX.out]
          exact word_or _ _ _ (by simp only [Nat.reducePow] at hp; omega) (by have := l[k].toNat_lt; omega) (by omega)
        rw [e]
        exact ⟨k + 1, by omega, by go_num, by have := hB.set (k / 4) (.int .u32 ((wordP l k (k / 4) ||| (btN l k * 2 ^ (8 * (k % 4))) : Nat) : Int)); rw [wordsC_next l k hlt] at this; exact this.drew, (hB0.set_other _ (by simp) _).drew, (hF.setNew (by simp) _).drew⟩
      case measure => (simp [intOf]) <;> omega
    · have : k = 64 := by omega
      subst this
      clear hz
      have z0 : (wordsC l 0).size = 16 := wordsC_size l 0
      have z1 : (wordsC l 64).size = 16 := wordsC_size l 64
      have hone : (wordsC l 64).all (·.oneCell') = true := by simp [wordsC, Array.all_eq_true, Value.oneCell']
      rw [wordsC_end] at hB z1 hone
      obtain ⟨W, hW⟩ : ∃ W, W = arr32 (wordsL l) := ⟨_, rfl⟩
      obtain ⟨Z, hZ⟩ : ∃ Z, Z = wordsC l 0 := ⟨_, rfl⟩
      rw [← hW] at hB z1 hone
      rw [← hZ] at hB0 z0
      have HW := Lib.hid hW
      clear hW hZ
      go_wp2_with (first | (refine wpList_load_blk rfl 146 (.tmp 3) rfl (w.heap.size + 1) 146 W _ hB rfl Try.underlying146 rfl (by rw [z1]; exact info16) ?_) | (refine wpList_store_blk rfl 146 (.tmp 2) (.tmp 23) rfl w.heap.size 146 Z W hB0 rfl rfl (by rw [z0, z1]) (by rw [z1]; exact info16) hone ?_; intro w' hw' hB'))
      refine ret_cell1 2 146 rfl w.heap.size 146 W _ hB' rfl Try.underlying146 rfl (by rw [z1]; exact info16) rfl ⟨by rw [HW.out], ?_⟩
      rw [hw'.out]
      exact hF.setCells _ _ _ (Or.inl (Nat.le_refl _))
end Go.Proofs.Ytcdencpkgfehlaa

/- The state taken on by a block. -/
namespace Go.Proofs.Ytcdencpkgfehlaa
open Go.RowKit
set_option linter.unusedVariables false

def stC (s : St) : Array Value := #[.int .u32 (s.a : Int), .int .u32 (s.b : Int), .int .u32 (s.c : Int), .int .u32 (s.d : Int)]
/-- what a region of a step holds -/
def OnS (w0 : World) (h : Nat) (S W Z : Array Value) (i : Nat) (v : Value) (w1 : World) : Prop :=
  w1.cell? ⟨h + 1, i, none⟩ = some v ∧ Blk w1 h S 144 ∧ Blk w1 (h + 1) W 146 ∧ Blk w1 (h + 2) Z 144 ∧ Fr [] w0 w1
theorem OnS.mk {w0 w1 : World} {h : Nat} {S W Z : Array Value} {i : Nat} {v : Value} (hv : Hid (W[i]? = some v)) (a : Blk w1 h S 144) (b : Blk w1 (h + 1) W 146) (c : Blk w1 (h + 2) Z 144) (d : Fr [] w0 w1) : OnS w0 h S W Z i v w1 :=
  ⟨b.c i v hv.out, a, b, c, d⟩
theorem OnS.call {w0 w1 w2 : World} {h : Nat} {S W Z : Array Value} {i : Nat} {v : Value} (hv : Hid (W[i]? = some v)) (k : OnS w0 h S W Z i v w1) (f : Fr [] w1 w2) : OnS w0 h S W Z i v w2 :=
  OnS.mk hv (f.blk k.2.1 (by simp)) (f.blk k.2.2.1 (by simp)) (f.blk k.2.2.2.1 (by simp)) (k.2.2.2.2.trans f)
theorem info4 : (Try.prog.info? 144).map (·.size) = some 4 := by kernel_rfl
theorem wrap32_bd (y : Int) : 0 ≤ IntKind.u32.wrap y ∧ IntKind.u32.wrap y < 4294967296 := by rw [IntKind.wrap_u32]; omega

theorem Blk.new1 (w : World) (o : Obj) (cs : Array Value) (T : Nat) : Blk ((w.alloc o).alloc (.cells cs T (0, 0))) (w.heap.size + 1) cs T := by
  have := Blk.new (w.alloc o) cs T
  rwa [World.size_alloc] at this
theorem Blk.new2 (w : World) (o o' : Obj) (cs : Array Value) (T : Nat) : Blk (((w.alloc o).alloc o').alloc (.cells cs T (0, 0))) (w.heap.size + 1 + 1) cs T := by
  have := Blk.new ((w.alloc o).alloc o') cs T
  rwa [World.size_alloc, World.size_alloc] at this
theorem arr32_get (ws : List Nat) (j : Nat) (hj : j < ws.length) : (arr32 ws)[j]? = some (.int .u32 (ws.getD j 0 : Nat)) := by
  simp [arr32, List.getD, List.getElem?_eq_getElem hj]
theorem step_val (ws : List Nat) (k : Nat) (t : St) (ok : t.Ok) (A B C D V : Int) (hA : (t.a : Int) = A) (hB : (t.b : Int) = B) (hC : (t.c : Int) = C) (hD : (t.d : Int) = D) (hV : ((ws.getD (mixK k) 0 : Nat) : Int) = V) :
    (B + rotI (turnOf k : Nat) ((((A + mixI k B C D) % 4294967296 + (tabL.getD k 0 : Nat)) % 4294967296 + V) % 4294967296)) % 4294967296 = ((stepB ws k t : Nat) : Int) := by
  have ht : turnOf k < 32 := by
    unfold turnOf
    have : ∀ j, turnL.getD j 0 < 32 := fun j => by
      by_cases h : j < 16
      · have : ∀ j : Fin 16, turnL.getD j.1 0 < 32 := by decide
        exact this ⟨j, h⟩
      · have e : turnL.getD j 0 = 0 := by
          rw [List.getD, List.getElem?_eq_none (by show 16 ≤ j; omega)]; rfl
        omega
    exact this _
  have hm : mixI k B C D = (mixF k t.b t.c t.d : Nat) := by
    unfold mixI; rw [← hB, ← hC, ← hD, Int.toNat_natCast, Int.toNat_natCast, Int.toNat_natCast]
  unfold stepB rotI
  rw [hm, ← hV, ← hA, ← hB]
  have e1 : (((turnOf k : Nat) : Int) % 32).toNat = turnOf k := by omega
  have e2 : ((((t.a : Int) + (mixF k t.b t.c t.d : Nat)) % 4294967296 + (tabL.getD k 0 : Nat)) % 4294967296 + (ws.getD (mixK k) 0 : Nat)) % 4294967296 = ((t.a + mixF k t.b t.c t.d + tabL.getD k 0 + ws.getD (mixK k) 0) % 4294967296 : Nat) := by omega
  rw [e1, e2, Int.toNat_natCast]
  omega

set_option maxRecDepth 100000 in
set_option maxHeartbeats 2000000 in
theorem on_any (s : St) (ws : List Nat) (w : World) (hs : s.Ok) (hw : ws.length = 16) (hw32 : ∀ j, ws.getD j 0 < 4294967296) :
    Calls Try.prog 87 #[.agg (stC s), .agg (arr32 ws)] w fun e w' => e = .returned (.agg (stC (onS s ws))) ∧ Fr [] w w' := by
  obtain ⟨W, hW⟩ : ∃ W, W = arr32 ws := ⟨_, rfl⟩
  rw [← hW]
  have HW := Lib.hid hW
  have Hs := Lib.hid hs
  have Hw := Lib.hid hw
  have H32 := Lib.hid hw32
  clear hW hs hw hw32
  obtain ⟨A0, a0⟩ : ∃ x : Int, (s.a : Int) = x := ⟨_, rfl⟩
  obtain ⟨B0, b0⟩ : ∃ x : Int, (s.b : Int) = x := ⟨_, rfl⟩
  obtain ⟨C0, c0⟩ : ∃ x : Int, (s.c : Int) = x := ⟨_, rfl⟩
  obtain ⟨D0, d0⟩ : ∃ x : Int, (s.d : Int) = x := ⟨_, rfl⟩
  have es : stC s = #[.int .u32 A0, .int .u32 B0, .int .u32 C0, .int .u32 D0] := by unfold stC; rw [a0, b0, c0, d0]
  rw [es]
  have Hab := Lib.hid (And.intro a0 (And.intro b0 (And.intro c0 d0)))
  clear es a0 b0 c0 d0
  go_enter Try.func87, Try.ntmps87
  go_wp2
  go_region
  all_goals go_wp2
  have hz : ∃ Z : Array Value, Z = #[.int .u32 0, .int .u32 0, .int .u32 0, .int .u32 0] := ⟨_, rfl⟩
  obtain ⟨Z, hZ⟩ := hz
  obtain ⟨S, hS0⟩ : ∃ S : Array Value, S = #[.int .u32 A0, .int .u32 B0, .int .u32 C0, .int .u32 D0] := ⟨_, rfl⟩
  go_loopw [5, 6, 7, 8, 20] (fun a b c d i wr => ∃ k : Nat, k ≤ 64 ∧ i = .int .i64 k ∧ a = .int .u32 ((stepsS ws s k).a : Nat) ∧ b = .int .u32 ((stepsS ws s k).b : Nat) ∧ c = .int .u32 ((stepsS ws s k).c : Nat) ∧ d = .int .u32 ((stepsS ws s k).d : Nat) ∧
    Blk wr w.heap.size S 144 ∧ Blk wr (w.heap.size + 1) W 146 ∧ Blk wr (w.heap.size + 1 + 1) Z 144 ∧ Fr [] w wr) (fun _ _ _ _ i _ => 64 - (intOf i).toNat)
  case atStart =>
    obtain ⟨a0, b0, c0, d0⟩ := Hab.out
    rw [← hZ, ← hS0, ← a0, ← b0, ← c0, ← d0]
    exact ⟨0, by omega, rfl, rfl, rfl, rfl, rfl, ((Blk.new _ _ _).alloc _).alloc _, (Blk.new1 _ _ _ _).alloc _, Blk.new2 _ _ _ _ _, ((((Fr.refl _ _).alloc _).alloc _).alloc _).drew⟩
  case round =>
    obtain ⟨k, hk, rfl, rfl, rfl, rfl, rfl, hS, hB, hZ', hF⟩ := hrel
    have HZ := Lib.hid hZ
    have HS0 := Lib.hid hS0
    clear hZ hS0
    have ok := stepsS_ok ws Hs.out k
    obtain ⟨t, ht⟩ : ∃ t, stepsS ws s k = t := ⟨_, rfl⟩
    have hnext : stepsS ws s (k + 1) = stepS ws k t := by rw [← ht]; rfl
    rw [ht] at ok ⊢
    have Hn := Lib.hid hnext
    have Ht := Lib.hid ht
    clear hnext ht
    obtain ⟨oa, ob, oc, od⟩ := ok
    obtain ⟨A, hA⟩ : ∃ x : Int, (t.a : Int) = x := ⟨_, rfl⟩
    obtain ⟨B', hB'⟩ : ∃ x : Int, (t.b : Int) = x := ⟨_, rfl⟩
    obtain ⟨C, hC⟩ : ∃ x : Int, (t.c : Int) = x := ⟨_, rfl⟩
    obtain ⟨D, hD⟩ : ∃ x : Int, (t.d : Int) = x := ⟨_, rfl⟩
    have A0' : 0 ≤ A := by omega
    have A1 : A < 4294967296 := by omega
    have B0' : 0 ≤ B' := by omega
    have B1 : B' < 4294967296 := by omega
    have C0' : 0 ≤ C := by omega
    have C1 : C < 4294967296 := by omega
    have D0' : 0 ≤ D := by omega
    have D1 : D < 4294967296 := by omega
    have Hok := Lib.hid (show t.Ok from ⟨oa, ob, oc, od⟩)
    rw [hA, hB', hC, hD]
    have HA := Lib.hid hA
    have HB := Lib.hid hB'
    have HC := Lib.hid hC
    have HD := Lib.hid hD
    clear hA hB' hC hD oa ob oc od
    by_cases hlt : k < 64
    · obtain ⟨F, hFm⟩ : ∃ x : Int, mixI k B' C D = x := ⟨_, rfl⟩
      have hF0 := mixI_bd k B' C D B0' B1 C0' C1 D0' D1
      obtain ⟨q, hq⟩ : ∃ x : Nat, mixK k = x := ⟨_, rfl⟩
      have hq16 := mixK_lt k
      obtain ⟨V, hV⟩ : ∃ x : Int, ((ws.getD (mixK k) 0 : Nat) : Int) = x := ⟨_, rfl⟩
      have hWq := arr32_get ws (mixK k) (by rw [Hw.out]; exact hq16)
      have HV := Lib.hid hV
      rw [← HW.out, hV, hq] at hWq
      rw [hq] at hq16
      rw [hFm] at hF0
      obtain ⟨F0, F1⟩ := hF0
      have Hq := Lib.hid hq
      have HWq := Lib.hid hWq
      have HFm := Lib.hid hFm
      clear hWq hV hq hFm
      have q0 : (0 : Int) ≤ q := by omega
      have q1 : (q : Int) < 16 := by omega
      go_wp2_with fail
      refine (mix_any k B' C D _ hlt B0' B1 C0' C1 D0' D1).mono ?_
      rw [HFm.out, Hq.out]
      rintro e w1 ⟨rfl, rfl⟩
      go_wp2_with fail
      have hG : OnS w w.heap.size S W Z q (.int .u32 V) wr.drew := OnS.mk HWq hS.drew hB.drew hZ'.drew hF.drew
      go_region_held3 (fun w' => w'.cell? ⟨w.heap.size + 1, q, none⟩ = some (.int .u32 V) ∧ Blk w' w.heap.size S 144 ∧ Blk w' (w.heap.size + 1) W 146 ∧ Blk w' (w.heap.size + 1 + 1) Z 144 ∧ Fr [] w w')
        (first | exact hG | assumption | exact OnS.call HWq (by assumption) (by assumption))
        (first
          | (go_at_call 101; refine (table_any k _ hlt).mono ?_; rintro e w3 ⟨rfl, hF3⟩)
          | (go_at_call 102; refine (dturn_any k _ hlt).mono ?_; rintro e w3 ⟨rfl, hF3⟩)
          | (go_at_call 100; refine (rotate_i _ _ _ (wrap32_bd _).1 (wrap32_bd _).2).mono ?_; rintro e w3 ⟨rfl, rfl⟩))
      all_goals go_wp2
      all_goals
        go_roundw
        case rel =>
          go_split_ands
          refine ⟨k + 1, by omega, by go_num, ?_, ?_, ?_, ?_, by assumption, by assumption, by assumption, by assumption⟩
          · rw [Hn.out, ← HD.out]; rfl
          · rw [Hn.out]
            show _ = Value.int .u32 ((stepB ws k t : Nat) : Int)
            rw [← step_val ws k t Hok.out A B' C D V HA.out HB.out HC.out HD.out HV.out, HFm.out]
            simp only [IntKind.wrap_u32]
            rfl
          · rw [Hn.out, ← HB.out]; rfl
          · rw [Hn.out, ← HC.out]; rfl
        case measure => (simp [intOf]) <;> omega
    · have : k = 64 := by omega
      subst this
      have s0 := hS.c 0 (.int .u32 A0) (by rw [HS0.out]; rfl)
      have s1 := hS.c 1 (.int .u32 B0) (by rw [HS0.out]; rfl)
      have s2 := hS.c 2 (.int .u32 C0) (by rw [HS0.out]; rfl)
      have s3 := hS.c 3 (.int .u32 D0) (by rw [HS0.out]; rfl)
      have zs : Z.size = 4 := by rw [HZ.out]; rfl
      go_wp2_with (refine wpList_store_blk rfl 144 (.tmp 4) (.tmp 66) rfl (w.heap.size + 1 + 1) 144 Z _ hZ' rfl rfl ?_ ?_ ?_ ?_)
      · rw [zs]; rfl
      · exact info4
      · simp [Value.oneCell']
      intro w' hw' hB'
      go_wp2
      refine ret_cell1 4 144 rfl (w.heap.size + 1 + 1) 144 _ _ hB' rfl Try.underlying144 rfl info4 rfl ⟨?_, ?_⟩
      · obtain ⟨a0, b0, c0, d0⟩ := Hab.out
        have ea : (A0 + A) % 4294967296 = ((onS s ws).a : Nat) := by show _ = (((s.a + (stepsS ws s 64).a) % 4294967296 : Nat) : Int); rw [Ht.out, ← a0, ← HA.out]; omega
        have eb : (B0 + B') % 4294967296 = ((onS s ws).b : Nat) := by show _ = (((s.b + (stepsS ws s 64).b) % 4294967296 : Nat) : Int); rw [Ht.out, ← b0, ← HB.out]; omega
        have ec : (C0 + C) % 4294967296 = ((onS s ws).c : Nat) := by show _ = (((s.c + (stepsS ws s 64).c) % 4294967296 : Nat) : Int); rw [Ht.out, ← c0, ← HC.out]; omega
        have ed : (D0 + D) % 4294967296 = ((onS s ws).d : Nat) := by show _ = (((s.d + (stepsS ws s 64).d) % 4294967296 : Nat) : Int); rw [Ht.out, ← d0, ← HD.out]; omega
        unfold stC
        rw [ea, eb, ec, ed]
      rw [hw'.out]
      exact hF.setCells _ _ _ (Or.inl (by omega))
end Go.Proofs.Ytcdencpkgfehlaa

/- The digest: the program's. -/
namespace Go.Proofs.Ytcdencpkgfehlaa
open Go.RowKit
set_option linter.unusedVariables false

def lenV : Value → Nat
  | .slice _ n _ => n
  | _ => 0
theorem infoU8 : (Try.prog.info? 5).map (fun i => (i.zero, i.size, i.bytes)) = some (some (.int .u8 0), 1, 1) := by kernel_rfl
def tailI (k : Nat) : List Int := 128 :: List.replicate k 0
theorem tailI_succ (k : Nat) : tailI (k + 1) = tailI k ++ [0] := by simp [tailI, List.replicate_succ']
def arr8 (bs : List UInt8) : Array Value := (bs.map fun b : UInt8 => Value.int .u8 (b.toNat : Int)).toArray
theorem own_at {w : World} {base : Nat} {e : TypeId} {v : Value} {n : Nat} {xs : List Value} (h : w.ownsRow base e 1 v (n + 1) xs) : ∃ g cap, v = .slice (some ⟨g, 0, none⟩) (n + 1) cap ∧ base ≤ g ∧ g < w.heap.size := by
  rcases h.2 with ⟨_, h0⟩ | ⟨g, cap, cur, hv, hb, hg, _⟩
  · omega
  · exact ⟨g, cap, hv, hb, lt_of_block hg⟩
theorem Blk.grown {w w' : World} {b : Nat} {cs : Array Value} {T : Nat} {row : Option Nat} (h : Blk w b cs T) (hg : w.grownBy w' row) (hn : ∀ g, row = some g → b < g) : Blk w' b cs T := by
  have hlt := h.lt
  unfold Blk at *
  rw [hg.block b hlt (fun e => by have := hn b e.symm; omega)]; exact h
def longI (n k : Nat) : List Int := (List.range k).map fun i => (n : Int) * 8 / 2 ^ (8 * i) % 256
theorem longI_succ (n k : Nat) : longI n (k + 1) = longI n k ++ [(n : Int) * 8 / 2 ^ (8 * k) % 256] := by simp [longI, List.range_succ]
theorem tail_eq (n : Nat) : bytesOf (tailI (zerosN n) ++ longI n 8) = tailL n := by
  have h : ∀ i : Nat, (UInt8.ofNat ((n : Int) * 8 / 2 ^ (8 * i) % 256).toNat) = UInt8.ofNat (n * 8 / 256 ^ i % 256) := fun i => by
    have e : (n : Int) * 8 / 2 ^ (8 * i) % 256 = ((n * 8 / 256 ^ i % 256 : Nat) : Int) := by
      rw [show (256 : Nat) ^ i = 2 ^ (8 * i) from by rw [Nat.pow_mul]]
      simp
    rw [e, Int.toNat_natCast]
  have e8 : (longI n 8).map (fun x => UInt8.ofNat x.toNat) = longL n := by
    unfold longI longL
    rw [List.map_map]
    apply List.map_congr_left
    intro i _
    exact h i
  unfold bytesOf tailL tailI
  rw [List.map_append, e8, List.map_cons, List.map_replicate]
  rfl
theorem fc4 {w : World} {g T : Nat} {a b c d : Value} (h : Blk w g #[a, b, c, d] T) :
    w.cell? ⟨g, 0, none⟩ = some a ∧ w.cell? ⟨g, 1, none⟩ = some b ∧ w.cell? ⟨g, 2, none⟩ = some c ∧ w.cell? ⟨g, 3, none⟩ = some d ∧
    w.frozen? ⟨g, 0, none⟩ = false ∧ w.frozen? ⟨g, 1, none⟩ = false ∧ w.frozen? ⟨g, 2, none⟩ = false ∧ w.frozen? ⟨g, 3, none⟩ = false :=
  ⟨h.c 0 _ rfl, h.c 1 _ rfl, h.c 2 _ rfl, h.c 3 _ rfl, h.fz 0, h.fz 1, h.fz 2, h.fz 3⟩
theorem st4 {w : World} {g T : Nat} {a b c d : Value} (h : Blk w g #[a, b, c, d] T) (x y z u : Value) :
    Blk ((((w.setCell ⟨g, 0, none⟩ x).setCell ⟨g, 1, none⟩ y).setCell ⟨g, 2, none⟩ z).setCell ⟨g, 3, none⟩ u) g #[x, y, z, u] T := (((h.set 0 x).set 1 y).set 2 z).set 3 u
theorem wordsL_lt (L : List UInt8) (j : Nat) : (wordsL L).getD j 0 < 4294967296 := by
  have hw : ∀ j, wordAt L j < 4294967296 := fun j => by
    have h := fun i => (L.getD i 0).toNat_lt
    have h0 := h (4 * j)
    have h1 := h (4 * j + 1)
    have h2 := h (4 * j + 2)
    have h3 := h (4 * j + 3)
    unfold wordAt
    omega
  have hd : ∀ (m : List Nat) (f : Nat → Nat), (∀ x, f x < 4294967296) → (m.map f).getD j 0 < 4294967296 := fun m f hf => by
    rw [List.getD, List.getElem?_map]
    cases m[j]? with
    | none => simp
    | some x => simpa using hf x
  exact hd _ _ hw
theorem on_lit (s : St) (ws : List Nat) (w : World) (hs : s.Ok) (hw : ws.length = 16) (hw32 : ∀ j, ws.getD j 0 < 4294967296) :
    Calls Try.prog 87 #[.agg #[.int .u32 (s.a : Int), .int .u32 (s.b : Int), .int .u32 (s.c : Int), .int .u32 (s.d : Int)], .agg (arr32 ws)] w
      fun e w' => e = .returned (.agg #[.int .u32 ((onS s ws).a : Int), .int .u32 ((onS s ws).b : Int), .int .u32 ((onS s ws).c : Int), .int .u32 ((onS s ws).d : Int)]) ∧ Fr [] w w' := on_any s ws w hs hw hw32
theorem info16b : (Try.prog.info? 131).map (·.size) = some 16 := by kernel_rfl
theorem arr8_size (l : List UInt8) : (arr8 l).size = l.length := by simp [arr8]
theorem arr8_one (l : List UInt8) : (arr8 l).all (·.oneCell') = true := by simp [arr8, Value.oneCell']
def outC (t : St) (k : Nat) : Array Value := ((List.range 16).map fun i => Value.int .u8 ((if i < k then outAt t i else 0 : Nat) : Int)).toArray
theorem outC_size (t : St) (k : Nat) : (outC t k).size = 16 := by simp [outC]
theorem outC_get (t : St) (k j : Nat) (hj : j < 16) : (outC t k)[j]? = some (.int .u8 ((if j < k then outAt t j else 0 : Nat) : Int)) := by simp [outC, hj]
theorem outC_next (t : St) (k : Nat) (hk : k < 16) : (outC t k).setIfInBounds k (.int .u8 ((outAt t k : Nat) : Int)) = outC t (k + 1) := by
  apply Array.ext
  · simp [outC]
  · intro j h1 h2
    rw [outC_size] at h2
    rw [Array.getElem_setIfInBounds (by rw [outC_size]; exact h2)]
    by_cases h : k = j
    · subst h
      simp [outC]
    · rw [if_neg h]
      have e : (j < k + 1) = (j < k) := by apply propext; omega
      simp [outC, e]
theorem outC_zero (t : St) : outC t 0 = #[.int .u8 0, .int .u8 0, .int .u8 0, .int .u8 0, .int .u8 0, .int .u8 0, .int .u8 0, .int .u8 0, .int .u8 0, .int .u8 0, .int .u8 0, .int .u8 0, .int .u8 0, .int .u8 0, .int .u8 0, .int .u8 0] := by
  simp [outC, List.range_succ]
theorem outC_end (t : St) : outC t 16 = arr8 (outL t) := by
  have h : ((List.range 16).map fun i => Value.int .u8 ((if i < 16 then outAt t i else 0 : Nat) : Int)) = ((List.range 16).map fun i => UInt8.ofNat (outAt t i)).map fun b : UInt8 => Value.int .u8 (b.toNat : Int) := by
    rw [List.map_map]
    apply List.map_congr_left
    intro j hj
    rw [if_pos (List.mem_range.1 hj)]
    show Value.int .u8 _ = Value.int .u8 (((UInt8.ofNat (outAt t j)).toNat : Nat) : Int)
    have : outAt t j < 256 := by unfold outAt; omega
    rw [show (UInt8.ofNat (outAt t j)).toNat = outAt t j from by simp; omega]
  exact congrArg List.toArray h
theorem stC_get (t : St) (j : Nat) (hj : j < 4) : (stC t)[j]? = some (.int .u32 (t.get j : Nat)) := by
  have h : j = 0 ∨ j = 1 ∨ j = 2 ∨ j = 3 := by omega
  rcases h with rfl | rfl | rfl | rfl <;> rfl
theorem St.get_lt {t : St} (h : t.Ok) (j : Nat) : t.get j < 4294967296 := by
  unfold St.get
  split
  · exact h.a
  · split
    · exact h.b
    · split
      · exact h.c
      · exact h.d
def strV : Value → Nat
  | .string s => s.size
  | _ => 0
def z16 : Array Value := #[.int .u8 0, .int .u8 0, .int .u8 0, .int .u8 0, .int .u8 0, .int .u8 0, .int .u8 0, .int .u8 0, .int .u8 0, .int .u8 0, .int .u8 0, .int .u8 0, .int .u8 0, .int .u8 0, .int .u8 0, .int .u8 0]

set_option maxRecDepth 100000 in
set_option maxHeartbeats 2000000 in
theorem md5_any (l : List UInt8) (w : World) (hl : l.length ≤ 100000) :
    Calls Try.prog 77 #[.string (B l)] w fun e w' => e = .returned (.agg (arr8 (md5 l))) ∧ Fr [] w w' := by
  obtain ⟨i0, hi, hz0, hz1, hz2⟩ := info_parts infoU8
  obtain ⟨R, hR⟩ : ∃ R, R = z16 := ⟨_, rfl⟩
  go_enter Try.func77, Try.ntmps77
  go_wp2
  go_loopw [3] (fun v wr => ∃ k : Nat, k ≤ zerosN l.length ∧ wr.ownsRow (w.heap.size + 1) 5 1 v (k + 1) ((tailI k).map (Value.int .u8)) ∧ Blk wr w.heap.size R 131 ∧ Fr [] w wr) (fun v _ => 70 - lenV v)
  case atStart =>
    refine ⟨0, Nat.zero_le _, ?_, ?_, ((Fr.refl _ _).alloc _).alloc _⟩
    · have := World.ownsRow_lit (base := w.heap.size + 1) (e := 5) (size := 1) (w.alloc (.cells z16 131)) #[.int .u8 128] 1 (by simp) (by decide) rfl
      rw [World.size_alloc] at this
      exact this
    · rw [hR]; exact (Blk.new _ _ _).alloc _
  case round =>
    obtain ⟨k, hk, hown, hB, hF⟩ := hrel
    have HR := Lib.hid hR
    clear hR
    obtain ⟨g, cap, rfl, hg0, hg1⟩ := own_at hown
    have hZ : zerosN l.length < 64 := by unfold zerosN; omega
    by_cases hlt : k < zerosN l.length
    · have hb : (((l.length : Int) + ((k : Int) + 1)) % 64 != 56) = true := by
        rw [bne_iff_ne]; unfold zerosN at hlt; omega
      have HZ := Lib.hid hZ
      have Hlt := Lib.hid hlt
      clear hZ hlt hk
      have k64 : k < 64 := by have := HZ.out; have := Hlt.out; omega
      go_wp2_with (at_builtin; refine wpList_append_own _ rfl _ _ 57 rfl (w.heap.size + 1) 5 i0 (.int .u8 0) 1 1 Try.underlying57 hi hz0 hz1 hz2 rfl (by decide) _ _ _ rfl (hown.alloc _) ⟨wr.heap.size, 0, none⟩ 1 1 [.int .u8 0] rfl rfl ?c1 ?c2 ?c3 ?c4 ?c5 ?_)
      case c1 => exact new_cells _ _ _
      case c2 => simp [Value.oneCell']
      case c3 => unfold maxLen; omega
      case c4 => omega
      case c5 => simp; omega
      intro v' w1 hown' hgr' _
      have hF1 : Fr [] w w1 := (hF.alloc _).grown hgr' (fun k hk => by have := own_new hown k hk; omega)
      have hB1 : Blk w1 w.heap.size R 131 := (hB.alloc _).grown hgr' (fun k hk => by have := own_new hown k hk; omega)
      obtain ⟨g', cap', rfl, hg0', hg1'⟩ := own_at hown'
      clear hgr' hown hF hB
      go_wp2
      go_roundw
      case rel => exact ⟨k + 1, Hlt.out, by rw [tailI_succ, List.map_append]; exact hown', hB1, hF1⟩
      case measure => simp [lenV]; omega
    · have hkz : k = zerosN l.length := by omega
      have hb : (((l.length : Int) + ((k : Int) + 1)) % 64 != 56) = false := by
        rw [bne_eq_false_iff_eq]; unfold zerosN at hkz; omega
      clear hk hlt
      have Hk := Lib.hid hkz
      have k64 : k < 64 := by omega
      clear hkz hZ
      go_wp2
      obtain ⟨wo, rfl⟩ : ∃ wo : World, wo = wr := ⟨_, rfl⟩
      go_loopw [3, 24] (fun v cv wr => ∃ j : Nat, j ≤ 8 ∧ cv = .int .i64 j ∧ wr.ownsRow (w.heap.size + 1) 5 1 v (k + 1 + j) ((tailI k ++ longI l.length j).map (Value.int .u8)) ∧ Blk wr w.heap.size R 131 ∧ Fr [] w wr) (fun _ cv _ => 8 - (intOf cv).toNat)
      case atStart => exact ⟨0, by omega, rfl, by simpa [longI] using hown, hB, hF⟩
      case round =>
        clear hown hB hF
        obtain ⟨j, hj, rfl, hown, hB, hF⟩ := hrel
        by_cases hlt : j < 8
        · go_wp2_with (at_builtin; refine wpList_append_own _ rfl _ _ 57 rfl (w.heap.size + 1) 5 i0 (.int .u8 0) 1 1 Try.underlying57 hi hz0 hz1 hz2 rfl (by decide) _ _ _ rfl (hown.alloc _) ⟨wr.heap.size, 0, none⟩ 1 1 [.int .u8 ((l.length : Int) * 8 / 2 ^ (8 * j) % 256)] rfl rfl ?c1 ?c2 ?c3 ?c4 ?c5 ?_)
          case c1 => exact new_cells _ _ _
          case c2 => simp [Value.oneCell']
          case c3 => unfold maxLen; omega
          case c4 => omega
          case c5 => have := hF.size; have := hB.lt; simp; omega
          intro v' w1 hown' hgr' _
          have hF1 : Fr [] w w1 := (hF.alloc _).grown hgr' (fun k hk => by have := own_new hown k hk; omega)
          have hB1 : Blk w1 w.heap.size R 131 := (hB.alloc _).grown hgr' (fun k hk => by have := own_new hown k hk; omega)
          clear hgr' hown hF hB
          go_wp2
          go_roundw
          case rel => exact ⟨j + 1, by omega, by go_num, by rw [longI_succ]; have h := hown'; simp only [List.map_append, List.append_assoc, List.map_cons, List.map_nil] at h ⊢; exact h, hB1, hF1⟩
          case measure => (simp [intOf]) <;> omega
        · have h8 : j = 8 := by omega
          rw [show longI l.length j = longI l.length 8 from by rw [h8]] at hown
          have H8 := Lib.hid h8
          have hd8 : decide ((j : Int) < 8) = false := by simp; omega
          clear h8
          have hcv := run_str_any (P := Try.prog) Try.underlying57 Try.underlying5 Try.underlying9 (tailI k ++ longI l.length 8) _ hown
          have hpl : bytesOf (tailI k ++ longI l.length 8) = tailL l.length := by rw [Hk.out]; exact tail_eq _
          rw [hpl] at hcv
          have htl := tailL_length l.length
          have hq : ¬ 9223372036854775807 < l.length + (tailL l.length).length := by rw [htl]; unfold zerosN; omega
          obtain ⟨T, hT⟩ : ∃ T, tailL l.length = T := ⟨_, rfl⟩
          rw [hT] at hcv hq
          have HT := Lib.hid hT
          have Htl := Lib.hid htl
          clear hpl htl hT
          go_wp2
          clear hcv hown
          have hpad : l ++ T = padL l := by rw [← HT.out]; rfl
          rw [hpad]
          have hp := padL_length l
          obtain ⟨M, hM⟩ : ∃ M, padL l = M := ⟨_, rfl⟩
          rw [hM] at hp ⊢
          have HM := Lib.hid hM
          have Hp := Lib.hid hp
          clear hpad hq hM hp
          obtain ⟨wp, rfl⟩ : ∃ wp : World, wp = wr := ⟨_, rfl⟩
          have gg : w.heap.size < wp.heap.size := hB.lt
          go_loopw [0] (fun bv wr => ∃ m : Nat, 64 * m ≤ M.length ∧ bv = .string (B (M.drop (64 * m))) ∧ Blk wr wp.heap.size (stC (mdAt M m)) 144 ∧ Blk wr w.heap.size R 131 ∧ Fr [] w wr) (fun bv _ => strV bv)
          case atStart => exact ⟨0, by omega, rfl, Blk.new _ _ _, hB.alloc _, hF.alloc _⟩
          case round =>
            clear hB hF
            obtain ⟨m, hm, rfl, hS, hB, hF⟩ := hrel
            obtain ⟨p64, plen, plt⟩ := Hp.out
            have ok := mdAt_ok M m
            have hnext : mdAt M (m + 1) = onS (mdAt M m) (wordsL (M.drop (64 * m))) := rfl
            obtain ⟨t, ht⟩ : ∃ t, mdAt M m = t := ⟨_, rfl⟩
            rw [ht] at ok hS hnext
            by_cases hlt : 64 * m < M.length
            · have hsz : 64 ≤ (M.drop (64 * m)).length := by rw [List.length_drop]; omega
              have hsz2 : (M.drop (64 * m)).length ≤ 1000000 := by rw [List.length_drop]; omega
              have hdd : (M.drop (64 * m)).drop 64 = M.drop (64 * (m + 1)) := by rw [List.drop_drop]; congr 1
              have hll : (M.drop (64 * (m + 1))).length + 64 = (M.drop (64 * m)).length := by rw [List.length_drop, List.length_drop]; omega
              obtain ⟨L, hL⟩ : ∃ L, M.drop (64 * m) = L := ⟨_, rfl⟩
              rw [hL] at hsz hsz2 hdd hll hnext ⊢
              have hne : L.isEmpty = false := by cases L with
                | nil => simp at hsz
                | cons => rfl
              have hne2 : (!L.isEmpty) = true := by rw [hne]; rfl
              have htk : (L.drop 64).take (L.length - 64) = L.drop 64 := List.take_of_length_le (by simp)
              have Hdd := Lib.hid hdd
              have Hll := Lib.hid hll
              have Hn := Lib.hid hnext
              have i64 : (64 : Int) ≤ L.length := by omega
              have Hm : Hid (64 * (m + 1) ≤ M.length) := Lib.hid (by omega)
              clear hdd hll hL hnext ht hlt plen plt p64 hm
              have Hok := Lib.hid ok
              have hS : Blk wr wp.heap.size #[.int .u32 (t.a : Int), .int .u32 (t.b : Int), .int .u32 (t.c : Int), .int .u32 (t.d : Int)] 144 := hS
              have k0 := fc4 hS
              clear ok
              go_wp2_with fail
              go_region_with (first
                  | (go_at_call 88; refine (words_any L _ hsz hsz2).mono ?_; rintro e w3 ⟨rfl, hF3⟩; have hS3 := hF3.blk hS.drew (by simp); have hB3 := hF3.blk hB.drew (by simp); have k3 := fc4 hS3)
                  | (go_at_call 87; refine (on_lit t (wordsL L) _ Hok.out rfl (wordsL_lt L)).mono ?_; rintro e w4 ⟨rfl, hF4⟩; have hS4 := hF4.blk hS3 (by simp); have hB4 := hF4.blk hB3 (by simp); have k4 := fc4 hS4))
              all_goals
                clear k0 k3
                go_wp2
                go_roundw
                case rel =>
                  refine ⟨m + 1, Hm.out, ?_, ?_, ?_, ?_⟩
                  · rw [Hdd.out]
                  · rw [Hn.out]
                    exact st4 hS4 _ _ _ _
                  · exact (((hB4.set_other _ (by simp; omega) _).set_other _ (by simp; omega) _).set_other _ (by simp; omega) _).set_other _ (by simp; omega) _
                  · exact ((((hF.drew.trans hF3).trans hF4 |>.setNew (by simp; omega) _).setNew (by simp; omega) _).setNew (by simp; omega) _).setNew (by simp; omega) _
                case measure =>
                  have := Hll.out
                  simp [strV, B_size]
                  omega
            · have hfin : 64 * m = M.length := by omega
              have hm' : mdAt M m = md5S l := by unfold md5S; rw [HM.out, show M.length / 64 = m from by omega]
              rw [ht] at hm'
              rw [List.drop_of_length_le (by omega)]
              have Hmd := Lib.hid hm'
              have Hok := Lib.hid ok
              clear hm' hfin ht hnext ok hlt hm p64 plen plt
              go_wp2
              obtain ⟨wq, rfl⟩ : ∃ wq : World, wq = wr := ⟨_, rfl⟩
              have gq : wp.heap.size < wq.heap.size := hS.lt
              have hz := outC_zero t
              go_loopw [49] (fun cv wr => ∃ i : Nat, i ≤ 16 ∧ cv = .int .i64 i ∧ Blk wr wq.heap.size (outC t i) 131 ∧ Blk wr wp.heap.size (stC t) 144 ∧ Blk wr w.heap.size R 131 ∧ Fr [] w wr) (fun cv _ => 16 - (intOf cv).toNat)
              case atStart =>
                rw [← hz]
                exact ⟨0, by omega, rfl, Blk.new _ _ _, hS.alloc _, hB.alloc _, hF.alloc _⟩
              case round =>
                clear hS hB hF hz
                obtain ⟨i, hi', rfl, hO, hS, hB, hF⟩ := hrel
                by_cases hlt : i < 16
                · have hc := hS.c (i / 4) _ (stC_get t (i / 4) (by omega))
                  have hO1 := hO.c i _ (outC_get t i i hlt)
                  have hO2 := hO.fz i
                  obtain ⟨X, hX⟩ : ∃ X : Int, ((t.get (i / 4) : Nat) : Int) = X := ⟨_, rfl⟩
                  have hb := St.get_lt Hok.out (i / 4)
                  have x0 : 0 ≤ X := by omega
                  have x1 : X < 4294967296 := by omega
                  rw [hX] at hc
                  have HX := Lib.hid hX
                  clear hX hb
                  go_wp2
                  go_roundw
                  case rel =>
                    have e : X / 2 ^ (8 * (i % 4)) % 256 = ((outAt t i : Nat) : Int) := by
                      unfold outAt
                      rw [← HX.out, show (256 : Nat) ^ (i % 4) = 2 ^ (8 * (i % 4)) from by rw [Nat.pow_mul]]
                      simp
                    rw [e]
                    exact ⟨i + 1, by omega, by go_num, by have := hO.set i (.int .u8 ((outAt t i : Nat) : Int)); rw [outC_next t i hlt] at this; exact this, hS.set_other _ (by simp; omega) _, hB.set_other _ (by simp; omega) _, hF.setNew (by simp; omega) _⟩
                  case measure => (simp [intOf]) <;> omega
                · have h16 : i = 16 := by omega
                  have rs : R.size = 16 := by rw [HR.out]; rfl
                  have hO' : Blk wr wq.heap.size (arr8 (md5 l)) 131 := by
                    have := hO; rw [h16, outC_end, Hmd.out] at this; exact this
                  clear hO h16
                  have ws : (arr8 (md5 l)).size = 16 := by rw [arr8_size, md5_length]
                  have w1 : (arr8 (md5 l)).all (·.oneCell') = true := arr8_one _
                  obtain ⟨W, hW⟩ : ∃ W, arr8 (md5 l) = W := ⟨_, rfl⟩
                  rw [hW] at hO' ws w1
                  have HW := Lib.hid hW
                  clear hW
                  go_wp2_with (first | (refine wpList_load_blk rfl 131 (.tmp 7) rfl wq.heap.size 131 W _ hO' rfl Try.underlying131 rfl (by rw [ws]; exact info16b) ?_) | (refine wpList_store_blk rfl 131 (.tmp 2) (.tmp 64) rfl w.heap.size 131 R W hB rfl rfl (by rw [ws, rs]) (by rw [ws]; exact info16b) w1 ?_; intro w' hw' hB'))
                  refine ret_cell1 2 131 rfl w.heap.size 131 W _ hB' rfl Try.underlying131 rfl (by rw [ws]; exact info16b) rfl ⟨by rw [HW.out], ?_⟩
                  rw [hw'.out]
                  exact hF.setCells _ _ _ (Or.inl (Nat.le_refl _))
end Go.Proofs.Ytcdencpkgfehlaa

/- A digest's text (the program's alone). -/
namespace Go.Proofs.Ytcdencpkgfehlaa
open Go.RowKit
set_option linter.unusedVariables false

def ints8 (l : List UInt8) : List Int := l.map fun b => (b.toNat : Int)
theorem bytes_ints8 (l : List UInt8) : bytesOf (ints8 l) = l := by
  unfold bytesOf ints8
  rw [List.map_map]
  conv => rhs; rw [← List.map_id l]
  apply List.map_congr_left
  intro b _
  simp
theorem arr8_ints (l : List UInt8) : arr8 l = ((ints8 l).map (Value.int .u8)).toArray := by
  unfold arr8 ints8
  rw [List.map_map]; rfl
set_option maxRecDepth 100000 in
theorem sl16 (g : Nat) (w : World) :
    (Instr.sliceAt 131 (.pointer (some ⟨g, 0, none⟩)) none none none).run Try.prog w = .ok (.slice (some ⟨g, 0, none⟩) 16 16) w := by
  have ha : Try.prog.arrayLen 131 = 16 := by kernel_rfl
  have hs : (sizeOf (Try.prog.elem 131)).run Try.prog w = .ok 1 w := by kernel_rfl
  rw [run_sliceAt_array_all w 131 ⟨g, 0, none⟩ Try.underlying131, hs, ha]
  rfl
theorem text_any (l : List UInt8) (w : World) (hl : l.length = 16) :
    Calls Try.prog 76 #[.agg (arr8 l)] w fun e w' => e = .returned (.string (B l)) ∧ Fr [] w w' := by
  have hcv : (convert 57 9 (.slice (some ⟨w.heap.size, 0, none⟩) 16 16)).run Try.prog (w.alloc (.cells (arr8 l) 131)) = .ok (.string (B l)) (w.alloc (.cells (arr8 l) 131)) := by
    rw [arr8_ints]
    have := run_str (P := Try.prog) (w := w.alloc (.cells ((ints8 l).map (Value.int .u8)).toArray 131)) (b := w.heap.size) (cap := 16) Try.underlying57 Try.underlying5 Try.underlying9 (ints8 l) (Blk.new _ _ _) 16 (by simp [ints8, hl])
    rw [this, bytes_ints8]
  have hsl := fun w' => sl16 w.heap.size w'
  have Hl := Lib.hid hl
  clear hl
  go_enter Try.func76, Try.ntmps76
  go_wp2
  go_ret
  exact ⟨rfl, (Fr.refl _ _).alloc _⟩
end Go.Proofs.Ytcdencpkgfehlaa

