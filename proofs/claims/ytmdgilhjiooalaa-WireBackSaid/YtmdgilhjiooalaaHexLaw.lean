/- What is read back of digits; the walk of WireHexes. -/
import Derived.Test.YtmdgilhjiooalaaUnhex
import Derived.Test.YtmdgilhjiooalaaAlive1
namespace Go.Proofs.Ytmdgilhjiooalaa
open Go.RowKit
set_option linter.unusedVariables false

def nums (l : List UInt8) : List Int := l.map fun b => (b.toNat : Int)
theorem bytesOf_nums (l : List UInt8) : bytesOf (nums l) = l := by
  induction l with
  | nil => rfl
  | cons b l ih => simp [bytesOf, nums] at *; exact ih
theorem bytesOf_append (a b : List Int) : bytesOf (a ++ b) = bytesOf a ++ bytesOf b := by simp [bytesOf]
theorem hexD_bd (x : Int) (h0 : 0 ≤ x) (h1 : x < 16) : 48 ≤ hexD x ∧ hexD x ≤ 102 ∧ isD (hexD x) = true ∧ dv (hexD x) = x := by
  unfold hexD
  split
  · refine ⟨by omega, by omega, ?_, ?_⟩
    · simp only [isD, decide_eq_true_eq]; omega
    · unfold dv; rw [if_pos (by omega)]; omega
  · refine ⟨by omega, by omega, ?_, ?_⟩
    · simp only [isD, decide_eq_true_eq]; omega
    · unfold dv; rw [if_neg (by omega), if_pos (by omega)]; omega
def hexB (l : List UInt8) : List UInt8 := bytesOf (hexL l)
theorem hexB_length (l : List UInt8) : (hexB l).length = 2 * l.length := by simp [hexB, bytesOf, hexL_length]
theorem hexB_cons (b : UInt8) (l : List UInt8) : hexB (b :: l) = UInt8.ofNat (hexD ((b.toNat : Int) / 16)).toNat :: UInt8.ofNat (hexD ((b.toNat : Int) % 16)).toNat :: hexB l := by
  simp [hexB, hexL, bytesOf]
theorem hexB_all (l : List UInt8) : (hexB l).all isDb = true := by
  induction l with
  | nil => rfl
  | cons b l ih =>
    have hb := byte_bd b
    have h1 := hexD_bd ((b.toNat : Int) / 16) (by omega) (by omega)
    have h2 := hexD_bd ((b.toNat : Int) % 16) (by omega) (by omega)
    rw [hexB_cons, List.all_cons, List.all_cons, ih]
    unfold isDb
    rw [u8_toNat _ (by omega) (by omega), u8_toNat _ (by omega) (by omega), h1.2.2.1, h2.2.2.1]; rfl
theorem hexB_at (l : List UInt8) (t : List UInt8) (i : Nat) (h : i < l.length) :
    at0 (hexB l ++ t) (2 * i) = hexD ((l[i].toNat : Int) / 16) ∧ at0 (hexB l ++ t) (2 * i + 1) = hexD ((l[i].toNat : Int) % 16) := by
  induction l generalizing i with
  | nil => simp at h
  | cons b l ih =>
    have hb := byte_bd b
    have h1 := hexD_bd ((b.toNat : Int) / 16) (by omega) (by omega)
    have h2 := hexD_bd ((b.toNat : Int) % 16) (by omega) (by omega)
    rw [hexB_cons]
    cases i with
    | zero =>
      constructor
      · show (((UInt8.ofNat (hexD ((b.toNat : Int) / 16)).toNat).toNat : Nat) : Int) = _
        rw [u8_toNat _ (by omega) (by omega)]; rfl
      · show (((UInt8.ofNat (hexD ((b.toNat : Int) % 16)).toNat).toNat : Nat) : Int) = _
        rw [u8_toNat _ (by omega) (by omega)]; rfl
    | succ i =>
      have := ih i (by simpa using h)
      exact this
theorem valsN_hex (l t : List UInt8) (k : Nat) (h : k ≤ l.length) : valsN (hexB l ++ t) k = nums (l.take k) := by
  induction k with
  | zero => rfl
  | succ k ih =>
    have hb := byte_bd (l[k]'(by omega))
    have h1 := hexD_bd (((l[k]'(by omega)).toNat : Int) / 16) (by omega) (by omega)
    have h2 := hexD_bd (((l[k]'(by omega)).toNat : Int) % 16) (by omega) (by omega)
    have ha := hexB_at l t k (by omega)
    rw [valsN, ih (by omega), ha.1, ha.2, h1.2.2.2, h2.2.2.2, List.take_succ_eq_append_getElem (by omega)]
    unfold nums
    rw [List.map_append]
    congr 1
    simp only [List.map_cons, List.map_nil, List.cons.injEq, and_true]
    omega
theorem unh_hex (l : List UInt8) : unhE (hexB l) = 0 ∧ unhL (hexB l) = l := by
  have e : unhE (hexB l) = 0 := by
    unfold unhE
    rw [if_pos ⟨by rw [hexB_length]; omega, hexB_all l⟩]
  refine ⟨e, ?_⟩
  unfold unhL
  have := valsN_hex l [] l.length (Nat.le_refl _)
  rw [List.append_nil, List.take_length] at this
  rw [if_pos e, hexB_length, show 2 * l.length / 2 = l.length from by omega, this, bytesOf_nums]
theorem unh_odd (l : List UInt8) (c : UInt8) : unhE (hexB l ++ [c]) = 4 := by
  unfold unhE
  rw [if_neg (fun h => by have := h.1; rw [List.length_append, hexB_length] at this; simp at this <;> omega)]
theorem unh_A (l : List UInt8) : unhE (hexB l ++ [48, 65]) = 4 := by
  unfold unhE
  rw [if_neg (fun h => by have := h.2; rw [List.all_append, hexB_all] at this; simp [isDb, isD] at this)]
theorem unh_a (l : List UInt8) : unhE (hexB l ++ [48, 97]) = 0 ∧ unhL (hexB l ++ [48, 97]) = l ++ [10] := by
  have e : unhE (hexB l ++ [48, 97]) = 0 := by
    unfold unhE
    rw [if_pos ⟨by rw [List.length_append, hexB_length]; simp, by rw [List.all_append, hexB_all]; rfl⟩]
  refine ⟨e, ?_⟩
  have hv := valsN_hex l [48, 97] l.length (Nat.le_refl _)
  have h0 : at0 (hexB l ++ [48, 97]) (2 * l.length) = 48 := by unfold at0; rw [List.getD, List.getElem?_append_right (by rw [hexB_length]; omega), hexB_length]; simp
  have h1 : at0 (hexB l ++ [48, 97]) (2 * l.length + 1) = 97 := by unfold at0; rw [List.getD, List.getElem?_append_right (by rw [hexB_length]; omega), hexB_length]; simp
  unfold unhL
  rw [if_pos e, List.length_append, hexB_length]
  show bytesOf (valsN _ ((2 * l.length + 2) / 2)) = _
  rw [show (2 * l.length + 2) / 2 = l.length + 1 from by omega, valsN, hv, h0, h1, List.take_length, bytesOf_append, bytesOf_nums]
  rfl

theorem unhL_err (l : List UInt8) (h : unhE l = 4) : unhL l = [] := by unfold unhL; rw [h]; rfl

set_option maxHeartbeats 1000000 in
theorem wireHexes_walk (w : World) (s : ByteArray) (hs : s.size ≤ 140737488351232) :
    Calls Try.prog 8 #[.string s] w fun e w' => e = .returned (.bool true) ∧ Below w.heap.size w w' := by
  obtain ⟨l, rfl⟩ : ∃ l, s = B l := ⟨_, B_of s⟩
  rw [B_size] at hs
  by_cases hl : 3000 < l.length
  · have hl' : (3000 : Int) < l.length := by omega
    clear hl
    go_enter Try.func8, Try.ntmps8
    go_wp2_with fail
    refine (alive1 _).mono ?_
    rintro e w1 ⟨rfl, hF⟩
    go_wp2
    go_ret
    exact ⟨rfl, hF.below (Nat.le_refl _) (by simp)⟩
  · have hl' : ¬ (3000 : Int) < l.length := by omega
    have hlen := hexB_length l
    have u1 := unh_odd l 48
    have u2 := unh_A l
    have u3 := (unh_a l).1
    have u4 := (unh_a l).2
    have u5 := unhL_err _ u1
    have u6 := unhL_err _ u2
    have U1 := Lib.hid u1
    have U2 := Lib.hid u2
    have U3 := Lib.hid u3
    have U4 := Lib.hid u4
    have U5 := Lib.hid u5
    have U6 := Lib.hid u6
    have Hlen := Lib.hid hlen
    clear hl u1 u2 u3 u4 u5 u6 hlen
    go_enter Try.func8, Try.ntmps8
    go_wp2_with fail
    refine (hex_any l _ (by omega)).mono ?_
    rintro e w1 ⟨rfl, hF1⟩
    rw [show bytesOf (hexL l) = hexB l from rfl]
    have hsz : ((hexB l).length : Int) = 2 * (l.length : Int) := by rw [Hlen.out]; omega
    go_wp2_with fail
    refine (unhex_any (hexB l ++ [48]) _ (by rw [List.length_append, Hlen.out]; simp; omega)).mono ?_
    rw [U1.out, U5.out]
    rintro e w2 ⟨rfl, hF2⟩
    go_wp2_with fail
    refine (unhex_any (hexB l ++ [48, 65]) _ (by rw [List.length_append, Hlen.out]; simp; omega)).mono ?_
    rw [U2.out, U6.out]
    rintro e w3 ⟨rfl, hF3⟩
    go_wp2_with fail
    refine (unhex_any (hexB l ++ [48, 97]) _ (by rw [List.length_append, Hlen.out]; simp; omega)).mono ?_
    rw [U3.out, U4.out]
    rintro e w4 ⟨rfl, hF4⟩
    go_wp2_with fail
    refine (alive1 _).mono ?_
    rintro e w5 ⟨rfl, hF5⟩
    go_wp2
    go_ret
    exact ⟨rfl, ((((hF1.trans hF2).trans hF3).trans hF4).trans hF5).below (Nat.le_refl _) (by simp)⟩
end Go.Proofs.Ytmdgilhjiooalaa
