/- strings.LastIndexByte at '@'; store.Split, and the document's. -/
import Derived.Test.YtpljdnocdhppmaaClone
import Derived.Test.YtpljdnocdhppmaaRow
import Derived.Deep.RegionHeld3
import Derived.Outline
import Derived.IntWalk
namespace Go.Proofs.Ytpljdnocdhppmaa
open Go.RowKit
set_option linter.unusedVariables false

/-- the last place of the sign 64 ahead of place n, or -1 -/
def lastAt (l : List UInt8) : Nat → Int
  | 0 => -1
  | n + 1 => if l.getD n 0 = 64 then (n : Int) else lastAt l n
theorem lastAt_bd (l : List UInt8) (n : Nat) : -1 ≤ lastAt l n ∧ lastAt l n < n := by
  induction n with
  | zero => unfold lastAt; omega
  | succ n ih => unfold lastAt; split <;> omega
def spN (l : List UInt8) : List UInt8 := if lastAt l l.length < 0 then l else l.take (lastAt l l.length).toNat
def spR (l : List UInt8) : List UInt8 := if lastAt l l.length < 0 then [] else l.drop ((lastAt l l.length).toNat + 1)
theorem spN_le (l : List UInt8) : (spN l).length ≤ l.length := by unfold spN; split <;> simp; omega
theorem spR_le (l : List UInt8) : (spR l).length ≤ l.length := by unfold spR; split <;> simp

theorem getD_byte (l : List UInt8) (i : Nat) (h : i < l.length) : l.getD i 0 = l[i] := by simp [List.getD, h]
theorem byte_is (c : UInt8) : ((c.toNat : Int) == 64) = decide (c = 64) := by
  rw [Bool.eq_iff_iff, beq_iff_eq, decide_eq_true_eq]
  constructor
  · intro h
    apply UInt8.toNat_inj.1
    show c.toNat = 64
    omega
  · rintro rfl; rfl
set_option maxHeartbeats 400000 in
theorem lastIdxS (l : List UInt8) (w : World) (hl : l.length ≤ 140737488355328) :
    Calls Try.prog 62 #[.string (B l), .int .u8 64] w fun e w' => e = .returned (.int .i64 (lastAt l l.length)) ∧ w = w' := by
  go_enter Try.func62, Try.ntmps62
  go_wp2
  go_loop [5] (fun iv => ∃ i : Nat, i ≤ l.length ∧ iv = .int .i64 ((i : Int) - 1) ∧ Hid (lastAt l i = lastAt l l.length)) (fun iv => (intOf iv + 1).toNat)
  case atStart => exact ⟨l.length, Nat.le_refl _, rfl, Lib.hid rfl⟩
  case round =>
    obtain ⟨i, hi, rfl, hL⟩ := hrel
    cases i with
    | zero =>
      have h0 : ((0 : Nat) : Int) - 1 = -1 := rfl
      rw [h0]
      go_wp2
      go_ret
      exact ⟨rint hL.out, rfl⟩
    | succ i =>
      have h0 : ((i + 1 : Nat) : Int) - 1 = i := by omega
      rw [h0]
      have hlt : i < l.length := by omega
      have hil : (i : Int) ≤ 140737488355328 := by omega
      have hb := byte_is l[i]
      have hg := getD_byte l i hlt
      have hs : lastAt l (i + 1) = if l.getD i 0 = 64 then (i : Int) else lastAt l i := rfl
      have HS := Lib.hid hs
      have HG := Lib.hid hg
      clear h0 hs hg
      by_cases hc : l[i] = 64
      · have ht : ((l[i].toNat : Int) == 64) = true := by rw [hb]; simpa using hc
        have HC := Lib.hid hc
        clear hb hc
        go_wp2
        go_ret
        exact ⟨rint (by rw [← hL.out, HS.out, HG.out, if_pos HC.out]), rfl⟩
      · have ht : ((l[i].toNat : Int) == 64) = false := by rw [hb]; simpa using hc
        have HC := Lib.hid hc
        clear hb hc
        go_wp2
        go_round
        case rel => exact ⟨i, by omega, rfl, Lib.hid (by rw [← hL.out, HS.out, HG.out, if_neg HC.out])⟩
        case measure => (simp [intOf]) <;> omega
theorem lastIdx (l : List UInt8) (w : World) (hl : l.length ≤ 140737488355328) :
    Calls Try.prog 44 #[.string (B l), .int .u8 64] w fun e w' => e = .returned (.int .i64 (lastAt l l.length)) ∧ w = w' := by
  go_enter Try.func44, Try.ntmps44
  go_wp2_with fail
  refine (lastIdxS l _ hl).mono ?_
  rintro e w1 ⟨rfl, rfl⟩
  go_wp2
  go_ret
  exact ⟨rfl, rfl⟩
/-- a name and its realm, in memory -/
def whoC (a b : List UInt8) : Array Value := #[.string (B a), .string (B b)]
set_option maxHeartbeats 1000000 in
theorem split_any (l : List UInt8) (w : World) (hl : l.length ≤ 140737488355328) :
    Calls Try.prog 14 #[.string (B l)] w fun e w' => e = .returned (.agg (whoC (spN l) (spR l))) ∧ Fr [] w w' := by
  have L := Lib.hid fun W => lastIdx l W hl
  have hbd := lastAt_bd l l.length
  have hN : spN l = if lastAt l l.length < 0 then l else l.take (lastAt l l.length).toNat := rfl
  have hR : spR l = if lastAt l l.length < 0 then [] else l.drop ((lastAt l l.length).toNat + 1) := rfl
  obtain ⟨x, hx⟩ : ∃ x, lastAt l l.length = x := ⟨_, rfl⟩
  rw [hx] at L hbd hN hR
  by_cases hneg : x < 0
  · rw [if_pos hneg] at hN hR
    rw [hN, hR]
    have C := Lib.hid fun W => clone_any l W (by omega)
    clear hx hN hR
    go_enter Try.func14, Try.ntmps14
    go_wp2_with fail
    refine (L.out _).mono ?_
    rintro e w1 ⟨rfl, rfl⟩
    go_wp2_with fail
    refine (C.out _).mono ?_
    rintro e w2 ⟨rfl, hF⟩
    have hB := hF.blk (Blk.new w #[.string ⟨#[]⟩, .string ⟨#[]⟩] 24) (by simp)
    have b0 := hB.c 0 _ rfl
    have b1 := hB.c 1 _ rfl
    have f0 := hB.fz 0
    have f1 := hB.fz 1
    have hB2 := (hB.set 0 (.string (B l))).set 1 (.string ⟨#[]⟩)
    have hF2 : Fr [] w ((w2.setCell ⟨w.heap.size, 0, none⟩ (.string (B l))).setCell ⟨w.heap.size, 1, none⟩ (.string ⟨#[]⟩)) := ((((Fr.refl [] w).alloc _).trans hF).setNew (Nat.le_refl _) _).setNew (Nat.le_refl _) _
    clear hB hF
    go_wp2
    exact ret_cell1 2 24 rfl w.heap.size 24 (whoC l []) _ hB2 rfl Try.underlying24 rfl (by kernel_rfl) rfl ⟨rfl, hF2⟩
  · rw [if_neg hneg] at hN hR
    rw [hN, hR]
    obtain ⟨i, rfl⟩ : ∃ i : Nat, x = i := ⟨x.toNat, by omega⟩
    have C := Lib.hid fun (m : List UInt8) (hm : m.length ≤ 140737488355328) W => clone_any m W (by omega)
    have i1 : (i : Int) ≤ l.length := by omega
    have i2 : (i : Int) + 1 ≤ l.length := by omega
    have i3 : i ≤ l.length := by omega
    have i0 : (0 : Int) ≤ i := by omega
    obtain ⟨m, hm⟩ : ∃ m : Nat, i + 1 = m := ⟨_, rfl⟩
    have hmi : IntKind.i64.wrap ((i : Int) + 1) = (m : Int) := by rw [IntWalk.i64_in _ (by omega)]; omega
    have m0 : (0 : Int) ≤ m := by omega
    have m2 : (m : Int) ≤ l.length := by omega
    have m3 : m ≤ l.length := by omega
    have Hm := Lib.hid hm
    have hdt : List.take (l.length - m) (List.drop m l) = List.drop m l := List.take_of_length_le (by rw [List.length_drop]; omega)
    rw [Int.toNat_natCast, hm]
    clear hx hN hR hm
    go_enter Try.func14, Try.ntmps14
    go_wp2_with fail
    refine (L.out _).mono ?_
    rintro e w1 ⟨rfl, rfl⟩
    go_wp2_with fail
    have hB1 := (Blk.new w #[.string ⟨#[]⟩, .string ⟨#[]⟩] 24).drew
    have hF1 := ((Fr.refl [] w).alloc (.cells #[.string ⟨#[]⟩, .string ⟨#[]⟩] 24 (0, 0))).drew
    go_region_with (first | (go_at_call 45; refine (C.out _ (by simp; omega) _).mono ?_; rintro e w3 ⟨rfl, hF3⟩; first | (have hB3 := hF3.blk hB2 (by simp); have b0 := hB3.c 0 _ rfl; have b1 := hB3.c 1 _ rfl; have f0 := hB3.fz 0; have f1 := hB3.fz 1; have hF4 := hF2.trans hF3) | (have hB2 := hF3.blk hB1 (by simp); have hF2 := hF1.trans hF3)))
    all_goals
      have hB4 := (hB3.set 0 (.string (B (List.take i l)))).set 1 (.string (B (List.drop m l)))
      have hF5 := (hF4.setNew (p := ⟨w.heap.size, 0, none⟩) (Nat.le_refl _) (.string (B (List.take i l)))).setNew (p := ⟨w.heap.size, 1, none⟩) (Nat.le_refl _) (.string (B (List.drop m l)))
      clear b0 b1 f0 f1 hB3 hB2 hB1 hF3 hF4 hF2 hF1
      go_wp2_with fail
      exact ret_cell1 2 24 rfl w.heap.size 24 (whoC (List.take i l) (List.drop m l)) _ hB4 rfl Try.underlying24 rfl (by kernel_rfl) rfl ⟨rfl, hF5⟩
end Go.Proofs.Ytpljdnocdhppmaa
