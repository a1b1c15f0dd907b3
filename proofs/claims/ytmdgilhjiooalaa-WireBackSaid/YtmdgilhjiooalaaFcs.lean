import Derived.Test.YtmdgilhjiooalaaStr
namespace Go.Proofs.Ytmdgilhjiooalaa
open Go.RowKit
set_option linter.unusedVariables false

def cs1 (x : Nat) : Nat := if x % 2 = 1 then (x / 2) ^^^ 33800 else x / 2
def csN : Nat → Nat → Nat
  | 0, x => x
  | n + 1, x => cs1 (csN n x)
def crcB (x : Nat) (b : UInt8) : Nat := csN 8 (x ^^^ b.toNat)
def crcL (l : List UInt8) (x : Nat) : Nat := l.foldl crcB x
def fcs (l : List UInt8) : Nat := 65535 - crcL l 65535

theorem xor_lt16 {a b : Nat} (ha : a < 65536) (hb : b < 65536) : a ^^^ b < 65536 := Nat.xor_lt_two_pow (n := 16) ha hb
theorem cs1_lt {x : Nat} (h : x < 65536) : cs1 x < 65536 := by
  unfold cs1; split
  · exact xor_lt16 (by omega) (by omega)
  · omega
theorem csN_lt (n : Nat) {x : Nat} (h : x < 65536) : csN n x < 65536 := by
  induction n with
  | zero => exact h
  | succ n ih => exact cs1_lt ih
theorem crcB_lt {x : Nat} (b : UInt8) (h : x < 65536) : crcB x b < 65536 := csN_lt 8 (xor_lt16 h (by have := b.toNat_lt; omega))
theorem crcL_lt (l : List UInt8) {x : Nat} (h : x < 65536) : crcL l x < 65536 := by
  induction l generalizing x with
  | nil => exact h
  | cons b l ih => exact ih (crcB_lt b h)
theorem crcL_snoc (l : List UInt8) (i : Nat) (x : Nat) (h : i < l.length) : crcL (l.take (i + 1)) x = crcB (crcL (l.take i) x) l[i] := by
  unfold crcL
  rw [List.take_succ_eq_append_getElem h, List.foldl_append]; rfl

theorem not16 (x : Nat) (h : x < 65536) : 65535 ^^^ x = 65535 - x := by
  have e : 2 ^ 16 - 1 ^^^ x = 2 ^ 16 - (x + 1) := by
    apply Nat.eq_of_testBit_eq
    intro i
    rw [Nat.testBit_xor, Nat.testBit_two_pow_sub_one, Nat.testBit_two_pow_sub_succ (by simpa using h)]
    by_cases hi : i < 16
    · simp [hi]
    · have : x.testBit i = false := Nat.testBit_lt_two_pow (Nat.lt_of_lt_of_le h (Nat.pow_le_pow_right (n := 2) (by omega) (show 16 ≤ i by omega)))
      simp [hi, this]
  simp only [Nat.reducePow, Nat.reduceSub] at e
  omega
theorem i64_xor (a b : Nat) (ha : a < 4611686018427387904) (hb : b < 4611686018427387904) : bits .xor .i64 (a : Int) (b : Int) = ((a ^^^ b : Nat) : Int) := by
  have hx : a ^^^ b < 4611686018427387904 := Nat.xor_lt_two_pow (n := 62) ha hb
  show IntKind.i64.wrap ((BitVec.ofInt 64 (a : Int) ^^^ BitVec.ofInt 64 (b : Int)).toNat : Int) = _
  rw [BitVec.toNat_xor, ofInt_u64 a (by omega), ofInt_u64 b (by omega), IntKind.wrap_i64]
  omega

set_option maxRecDepth 100000 in
set_option maxHeartbeats 1000000 in
theorem fcs_any (l : List UInt8) (w : World) (hl : l.length ≤ 9223372036854775807) :
    Calls Try.prog 22 #[.string (B l)] w fun e w' => e = .returned (.int .i64 (fcs l)) ∧ w = w' := by
  go_enter Try.func22, Try.ntmps22
  go_wp2
  go_loopw [3, 8] (fun xv iv wr => ∃ i : Nat, i ≤ l.length ∧ iv = .int .i64 i ∧ xv = .int .u16 (crcL (l.take i) 65535 : Nat) ∧ w = wr) (fun _ iv _ => l.length - (intOf iv).toNat)
  case atStart => exact ⟨0, Nat.zero_le _, rfl, rfl, rfl⟩
  case round =>
    obtain ⟨i, hi, rfl, rfl, rfl⟩ := hrel
    by_cases hlt : i < l.length
    · have hsn := crcL_snoc l i 65535 hlt
      obtain ⟨x, hx⟩ : ∃ x, crcL (l.take i) 65535 = x := ⟨_, rfl⟩
      have hx16 : x < 65536 := hx ▸ crcL_lt _ (by omega)
      rw [hx] at hsn ⊢
      have Hsn := Lib.hid hsn
      clear hsn hx
      have hxor : bits .xor .u16 (x : Int) (IntKind.u16.wrap (l[i].toNat : Int)) = ((x ^^^ l[i].toNat : Nat) : Int) := by
        have := byte_bd l[i]
        rw [IntKind.wrap_u16, Int.emod_eq_of_lt (by omega) (by omega)]
        exact u16_xor_nat _ _ hx16 (by omega)
      have h0 := xor_lt16 hx16 (show l[i].toNat < 65536 by have := l[i].toNat_lt; omega)
      obtain ⟨y, hy⟩ : ∃ y, x ^^^ l[i].toNat = y := ⟨_, rfl⟩
      rw [hy] at hxor h0
      have Hy := Lib.hid hy
      have H0 := Lib.hid h0
      clear hy h0 hx16
      go_wp2
      clear hxor
      generalize l[i] = bb at *
      go_loopw [3, 17] (fun xv kv wr => ∃ k : Nat, k ≤ 8 ∧ kv = .int .i64 k ∧ xv = .int .u16 (csN k y : Nat) ∧ w = wr) (fun _ kv _ => 8 - (intOf kv).toNat)
      case atStart => exact ⟨0, by omega, rfl, rfl, rfl⟩
      case round =>
        obtain ⟨k, hk, rfl, rfl, rfl⟩ := hrel
        by_cases hk8 : k < 8
        · obtain ⟨z, hz⟩ : ∃ z, csN k y = z := ⟨_, rfl⟩
          have hz16 : z < 65536 := hz ▸ csN_lt k H0.out
          have hs : csN (k + 1) y = cs1 z := by rw [← hz]; rfl
          rw [hz]
          have Hs := Lib.hid hs
          clear hs hz
          have hz' : (z : Int) < 65536 := by omega
          have ha : bits .and .u16 (z : Int) 1 = ((z % 2 : Nat) : Int) := by
            have := u16_and_nat z 1 hz16 (by omega)
            rw [nat_mask1] at this
            exact this
          by_cases hodd : z % 2 = 1
          · have hx2 : bits .xor .u16 ((z : Int) / 2) 33800 = ((z / 2 ^^^ 33800 : Nat) : Int) := by
              have := u16_xor_nat (z / 2) 33800 (by omega) (by omega)
              simpa using this
            have hc : cs1 z = z / 2 ^^^ 33800 := by unfold cs1; rw [if_pos hodd]
            have hb : (bits .and .u16 (z : Int) 1 == 1) = true := by rw [ha, hodd]; rfl
            rw [hc] at Hs
            clear hc hodd hz16 hz' ha
            go_wp2
            go_roundw
            case rel => exact ⟨k + 1, by omega, by go_num, by rw [Hs.out], trivial⟩
            case measure => (simp [intOf]) <;> omega
          · have hc : cs1 z = z / 2 := by unfold cs1; rw [if_neg hodd]
            have hb : (bits .and .u16 (z : Int) 1 == 1) = false := by rw [ha, show z % 2 = 0 from by omega]; rfl
            rw [hc] at Hs
            clear hc hodd hz16 hz' ha
            go_wp2
            go_roundw
            case rel => exact ⟨k + 1, by omega, by go_num, by rw [Hs.out]; rfl, trivial⟩
            case measure => (simp [intOf]) <;> omega
        · have : k = 8 := by omega
          subst this
          go_wp2
          go_roundw
          case rel => exact ⟨i + 1, by omega, by go_num, by rw [Hsn.out, crcB, Hy.out], trivial⟩
          case measure => (simp [intOf]) <;> omega
    · have : i = l.length := by omega
      subst this
      rw [List.take_length]
      have hc16 := crcL_lt l (x := 65535) (by omega)
      obtain ⟨x, hx⟩ : ∃ x, crcL l 65535 = x := ⟨_, rfl⟩
      have hf : fcs l = 65535 - x := by unfold fcs; rw [hx]
      rw [hx] at hc16 ⊢
      have Hc := Lib.hid hc16
      have Hf := Lib.hid hf
      clear hc16 hx hf
      go_wp2
      go_ret
      refine ⟨rint ?_, rfl⟩
      rw [Hf.out]
      have h16 : x < 65536 := Hc.out
      have e : bits .xor .u16 IntKind.u16.max (x : Int) = ((65535 ^^^ x : Nat) : Int) := u16_xor_nat 65535 x (by omega) h16
      rw [e, not16 x h16, IntWalk.wrap64_in _ (by omega)]

set_option maxRecDepth 100000 in
set_option maxHeartbeats 1000000 in
theorem rfcs_any (l : List UInt8) (w : World) (hl : l.length ≤ 9223372036854775807) :
    Calls Try.prog 23 #[.string (B l)] w fun e w' => e = .returned (.int .i64 (fcs l)) ∧ w = w' := by
  go_enter Try.func23, Try.ntmps23
  go_wp2
  go_loopw [3, 4] (fun xv iv wr => ∃ i : Nat, i ≤ l.length ∧ iv = .int .i64 i ∧ xv = .int .i64 (crcL (l.take i) 65535 : Nat) ∧ w = wr) (fun _ iv _ => l.length - (intOf iv).toNat)
  case atStart => exact ⟨0, Nat.zero_le _, rfl, rfl, rfl⟩
  case round =>
    obtain ⟨i, hi, rfl, rfl, rfl⟩ := hrel
    by_cases hlt : i < l.length
    · have hsn := crcL_snoc l i 65535 hlt
      obtain ⟨x, hx⟩ : ∃ x, crcL (l.take i) 65535 = x := ⟨_, rfl⟩
      have hx16 : x < 65536 := hx ▸ crcL_lt _ (by omega)
      rw [hx] at hsn ⊢
      have Hsn := Lib.hid hsn
      clear hsn hx
      have hxor : bits .xor .i64 (x : Int) (wrap64 (l[i].toNat : Int)) = ((x ^^^ l[i].toNat : Nat) : Int) := by
        have := byte_bd l[i]
        rw [IntWalk.wrap64_in _ (by omega)]
        exact i64_xor _ _ (by omega) (by omega)
      have h0 := xor_lt16 hx16 (show l[i].toNat < 65536 by have := l[i].toNat_lt; omega)
      obtain ⟨y, hy⟩ : ∃ y, x ^^^ l[i].toNat = y := ⟨_, rfl⟩
      rw [hy] at hxor h0
      have Hy := Lib.hid hy
      have H0 := Lib.hid h0
      clear hy h0 hx16
      go_wp2
      clear hxor
      generalize l[i] = bb at *
      go_loopw [3, 5] (fun xv kv wr => ∃ k : Nat, k ≤ 8 ∧ kv = .int .i64 k ∧ xv = .int .i64 (csN k y : Nat) ∧ w = wr) (fun _ kv _ => 8 - (intOf kv).toNat)
      case atStart => exact ⟨0, by omega, rfl, rfl, rfl⟩
      case round =>
        obtain ⟨k, hk, rfl, rfl, rfl⟩ := hrel
        by_cases hk8 : k < 8
        · obtain ⟨z, hz⟩ : ∃ z, csN k y = z := ⟨_, rfl⟩
          have hz16 : z < 65536 := hz ▸ csN_lt k H0.out
          have hs : csN (k + 1) y = cs1 z := by rw [← hz]; rfl
          rw [hz]
          have Hs := Lib.hid hs
          clear hs hz
          by_cases hodd : z % 2 = 1
          · have hx2 : bits .xor .i64 ((z : Int) / 2) 33800 = ((z / 2 ^^^ 33800 : Nat) : Int) := by
              have := i64_xor (z / 2) 33800 (by omega) (by omega)
              simpa using this
            have hc : cs1 z = z / 2 ^^^ 33800 := by unfold cs1; rw [if_pos hodd]
            have ho : ((z : Int) % 2 == 1) = true := by rw [beq_iff_eq]; omega
            have hw2 : wrap64 ((z : Int) / 2) = (z : Int) / 2 := IntWalk.wrap64_in _ (by omega)
            rw [hc] at Hs
            clear hc hodd hz16
            go_wp2
            go_roundw
            case rel => exact ⟨k + 1, by omega, by go_num, by rw [Hs.out], trivial⟩
            case measure => (simp [intOf]) <;> omega
          · have hc : cs1 z = z / 2 := by unfold cs1; rw [if_neg hodd]
            have ho : ((z : Int) % 2 == 1) = false := by rw [beq_eq_false_iff_ne]; omega
            have hw2 : wrap64 ((z : Int) / 2) = (z : Int) / 2 := IntWalk.wrap64_in _ (by omega)
            rw [hc] at Hs
            clear hc hodd hz16
            go_wp2
            go_roundw
            case rel => exact ⟨k + 1, by omega, by go_num, by rw [Hs.out]; first | rfl | (rw [hw2]; rfl), trivial⟩
            case measure => (simp [intOf]) <;> omega
        · have : k = 8 := by omega
          subst this
          go_wp2
          go_roundw
          case rel => exact ⟨i + 1, by omega, by go_num, by rw [Hsn.out, crcB, Hy.out], trivial⟩
          case measure => (simp [intOf]) <;> omega
    · have : i = l.length := by omega
      subst this
      rw [List.take_length]
      have hc16 := crcL_lt l (x := 65535) (by omega)
      obtain ⟨x, hx⟩ : ∃ x, crcL l 65535 = x := ⟨_, rfl⟩
      have hf : fcs l = 65535 - x := by unfold fcs; rw [hx]
      rw [hx] at hc16 ⊢
      have Hc := Lib.hid hc16
      have Hf := Lib.hid hf
      clear hc16 hx hf
      go_wp2
      go_ret
      refine ⟨rint ?_, rfl⟩
      rw [Hf.out]
      have h16 : x < 65536 := Hc.out
      rw [IntWalk.wrap64_in _ (by omega)]
      omega
end Go.Proofs.Ytmdgilhjiooalaa
