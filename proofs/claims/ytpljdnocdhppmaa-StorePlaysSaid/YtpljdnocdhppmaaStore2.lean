/- the document's Split. -/
import Derived.Test.YtpljdnocdhppmaaStore1
import Derived.RegionTactic
namespace Go.Proofs.Ytpljdnocdhppmaa
open Go.RowKit
set_option linter.unusedVariables false

set_option maxHeartbeats 1000000 in
theorem rsplit_any (l : List UInt8) (w : World) (hl : l.length ≤ 140737488355328) :
    Calls Try.prog 42 #[.string (B l)] w fun e w' => e = .returned (.agg (whoC (spN l) (spR l))) ∧ Fr [] w w' := by
  have hN : spN l = if lastAt l l.length < 0 then l else l.take (lastAt l l.length).toNat := rfl
  have hR : spR l = if lastAt l l.length < 0 then [] else l.drop ((lastAt l l.length).toNat + 1) := rfl
  have HN := Lib.hid hN
  have HR := Lib.hid hR
  clear hN hR
  go_enter Try.func42, Try.ntmps42
  go_wp2
  go_loop [3] (fun iv => ∃ i : Nat, i ≤ l.length ∧ iv = .int .i64 ((i : Int) - 1) ∧ Hid (lastAt l i = lastAt l l.length)) (fun iv => (intOf iv + 1).toNat)
  case atStart => exact ⟨l.length, Nat.le_refl _, rfl, Lib.hid rfl⟩
  case round =>
    obtain ⟨i, hi, rfl, hL⟩ := hrel
    cases i with
    | zero =>
      have h0 : ((0 : Nat) : Int) - 1 = -1 := rfl
      rw [h0]
      have e1 : spN l = l := by rw [HN.out, ← hL.out]; rfl
      have e2 : spR l = [] := by rw [HR.out, ← hL.out]; rfl
      have E1 := Lib.hid e1
      have E2 := Lib.hid e2
      have hB2 := Blk.new w #[.string (B l), .string ⟨#[]⟩] 77
      clear e1 e2 h0
      go_wp2
      exact ret_cell1 2 77 rfl w.heap.size 77 (whoC l []) _ hB2 rfl Try.underlying77 rfl (by kernel_rfl) rfl ⟨by rw [E1.out, E2.out], (Fr.refl _ _).alloc _⟩
    | succ i =>
      have h0 : ((i + 1 : Nat) : Int) - 1 = i := by omega
      rw [h0]
      have hlt : i < l.length := by omega
      have hil : (i : Int) ≤ 140737488355328 := by omega
      have hb := byte_is l[i]
      have hg := getD_byte l i hlt
      have hs : lastAt l (i + 1) = if l.getD i 0 = 64 then (i : Int) else lastAt l i := rfl
      have HS := Lib.hid hs
      have HG := Lib.hid hg
      clear h0 hs hg
      by_cases hc : l[i] = 64
      · have ht : ((l[i].toNat : Int) == 64) = true := by rw [hb]; simpa using hc
        have hx : lastAt l l.length = i := by rw [← hL.out, HS.out, HG.out, if_pos hc]
        have e1 : spN l = l.take i := by rw [HN.out, hx, if_neg (by omega), Int.toNat_natCast]
        have e2 : spR l = l.drop (i + 1) := by rw [HR.out, hx, if_neg (by omega), Int.toNat_natCast]
        have i1 : (i : Int) ≤ l.length := by omega
        have i3 : i ≤ l.length := by omega
        have i0 : (0 : Int) ≤ i := by omega
        obtain ⟨m, hm⟩ : ∃ m : Nat, i + 1 = m := ⟨_, rfl⟩
        have hmi : IntKind.i64.wrap ((i : Int) + 1) = (m : Int) := by rw [IntWalk.i64_in _ (by omega)]; omega
        have m0 : (0 : Int) ≤ m := by omega
        have m2 : (m : Int) ≤ l.length := by omega
        have m3 : m ≤ l.length := by omega
        have Hm := Lib.hid hm
        have hdt : List.take (l.length - m) (List.drop m l) = List.drop m l := List.take_of_length_le (by rw [List.length_drop]; omega)
        rw [hm] at e2
        have E1 := Lib.hid e1
        have E2 := Lib.hid e2
        have hB2 := Blk.new w #[.string (B (List.take i l)), .string (B (List.drop m l))] 77
        clear e1 e2 hx hb hc hm HS HG hL
        go_wp2
        go_region
        all_goals
          go_wp2_with fail
          exact ret_cell1 2 77 rfl w.heap.size 77 (whoC (List.take i l) (List.drop m l)) _ hB2 rfl Try.underlying77 rfl (by kernel_rfl) rfl ⟨by rw [E1.out, E2.out], ((Fr.refl _ _).alloc _).drew⟩
      · have ht : ((l[i].toNat : Int) == 64) = false := by rw [hb]; simpa using hc
        have HC := Lib.hid hc
        clear hb hc
        go_wp2
        go_round
        case rel => exact ⟨i, by omega, rfl, Lib.hid (by rw [← hL.out, HS.out, HG.out, if_neg HC.out])⟩
        case measure => (simp [intOf]) <;> omega
end Go.Proofs.Ytpljdnocdhppmaa
