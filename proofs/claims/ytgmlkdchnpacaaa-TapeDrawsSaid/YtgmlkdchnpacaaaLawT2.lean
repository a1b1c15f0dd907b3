/- TapeBytes, TapeDraws, walked. -/
import Derived.Test.YtgmlkdchnpacaaaAlive3
import Derived.Deep.RegionHeld3
import Derived.Deep.DeepCutAuto
import Derived.Deep.CutBlock
namespace Go.Proofs.Ytgmlkdchnpacaaa
open Go.RowKit Go.Maps
set_option linter.unusedVariables false
theorem aft_len (m : Nat) (xs : List Int) (k : Int) : (aft m xs k).1.length = xs.length - m := by
  induction m with
  | zero => rfl
  | succ m ih => unfold aft; simp only; rw [List.length_tail, ih]; omega
theorem bys_get (m : Nat) (xs : List Int) (k : Int) (j : Nat) (hj : j < m) : (bys m xs k)[j]? = some (dv (aft j xs k).1 (aft j xs k).2 256) := by
  induction m with
  | zero => omega
  | succ m ih =>
    unfold bys
    by_cases h : j < m
    · rw [List.getElem?_append_left (by rw [bys_len]; exact h)]
      exact ih h
    · have : j = m := by omega
      subst this
      rw [List.getElem?_append_right (by rw [bys_len]; exact Nat.le_refl _), bys_len, Nat.sub_self]
      rfl
theorem tbytes_n {w : World} {g lo B : Nat} {xs : List Int} (m : Nat) (h : Tp w 48 g lo B xs 0) (m1 : m ≤ 64) :
    Calls Try.prog 19 #[.pointer (some ⟨g, 0, none⟩), .int .i64 m] w fun e w' => e = .returned (.string (Go.Proofs.Ytgmlkdchnpacaaa.B (bytesOf (bys m xs 0)))) ∧ Tp w' 48 g lo B (aft m xs 0).1 (aft m xs 0).2 ∧ Fr [g] w w' := by
  by_cases h0 : m = 0
  · subst h0
    exact (tbytes_bad (Or.inl (by decide))).mono fun e w' ⟨he, hw⟩ => ⟨he, by rw [hw]; exact h, by rw [hw]; exact Fr.refl _ _⟩
  · exact tbytes_ok m h (by omega) m1 (by decide) (by decide)
/-- one byte of what Bytes told -/
theorem byte_at (m : Nat) (xs : List Int) (j : Nat) (hj : j < m) (W : World) :
    (Instr.index 9 (.string (Go.Proofs.Ytgmlkdchnpacaaa.B (bytesOf (bys m xs 0)))) (.int .i64 j)).run Try.prog W = .ok (.int .u8 (dv (aft j xs 0).1 (aft j xs 0).2 256)) W := by
  have hl : (bytesOf (bys m xs 0)).length = m := by unfold bytesOf; rw [List.length_map, bys_len]
  have hd := dv_in (aft j xs 0).1 (aft j xs 0).2 256 (by decide)
  have hg := bys_get m xs 0 j hj
  obtain ⟨x, hx⟩ : ∃ x, dv (aft j xs 0).1 (aft j xs 0).2 256 = x := ⟨_, rfl⟩
  rw [hx] at hd hg ⊢
  have hsz : (Go.Proofs.Ytgmlkdchnpacaaa.B (bytesOf (bys m xs 0))).size = m := by rw [B_size, hl]
  rw [run_index_string W 9 _ .i64 j Try.underlying9, dif_pos ⟨by omega, by rw [hsz]; omega⟩]
  have hb : (bytesOf (bys m xs 0))[j]? = some (UInt8.ofNat x.toNat) := by unfold bytesOf; rw [List.getElem?_map, hg]; rfl
  have e : (Go.Proofs.Ytgmlkdchnpacaaa.B (bytesOf (bys m xs 0)))[((j : Int)).toNat]'(by rw [hsz]; omega) = UInt8.ofNat x.toNat := by
    rw [B_get]
    have := List.getElem?_eq_some_iff.1 hb
    obtain ⟨h1, h2⟩ := this
    simpa using h2
  rw [e, u8_toNat x hd.1 hd.2]
set_option maxRecDepth 100000 in
set_option maxHeartbeats 8000000 in
theorem bytes_small (w : World) (n : Nat) (a : Option Addr) (len cap : Nat) (l : List Int) (hl : IsInts w a len cap l) (l200 : len ≤ 200) (n64 : n ≤ 64) :
    Calls Try.prog 6 #[.slice a len cap, .int .i64 n] w fun e w' => e = .returned (.bool true) ∧ Below w.heap.size w w' := by
  have hR := hl.reads
  obtain ⟨hlen, hcap, hmax, hV, _⟩ := hl
  subst hlen
  have TN := Lib.hid fun (W : World) (hF : Fr [] w W) => tnew_any (w := W) (c := cap) ((hR.fr hF (Nat.le_refl _) (by simp)).more hF.size) (by omega) hV
  have h1 : ¬ (200 : Int) < l.length := by omega
  have h2 : ¬ (n : Int) < 0 := by omega
  have h3 : ¬ (64 : Int) < n := by omega
  clear hR hV
  unfold maxLen at hmax
  go_enter Try.func6, Try.ntmps6
  go_wp2_with fail
  refine (TN.out _ (Fr.refl _ _)).mono ?_
  rintro e w1 ⟨g1, rfl, hg1, hT1, hF1⟩
  have hg1l := hT1.lt
  go_wp2_with fail
  refine (TN.out _ hF1).mono ?_
  rintro e w2 ⟨g2, rfl, hg2, hT2, hG⟩
  have hF2 := hF1.trans hG
  have hT1 := hT1.fr0 hG
  have hne : g1 ≠ g2 := by omega
  clear TN hG hF1
  have B1 := Lib.hid (tbytes_n n hT1 n64)
  have hSl : (bytesOf (bys n l 0)).length = n := by unfold bytesOf; rw [List.length_map, bys_len]
  have HIX := Lib.hid fun (j : Nat) (hj : j < n) (W : World) => byte_at n l j hj W
  obtain ⟨S, hS⟩ : ∃ S, bytesOf (bys n l 0) = S := ⟨_, rfl⟩
  rw [hS] at B1 hSl HIX
  have hsub : Hid (∀ y, y = g1 ∨ y = g2 → w.heap.size ≤ y) := Lib.hid fun y hy => by have := hF2.size; omega
  have HG := Lib.hid hg2
  have hg12 : g1 < g2 := by omega
  clear hS hg1 hg2 hT1
  go_wp2_with fail
  refine B1.out.mono ?_
  rintro e w3 ⟨rfl, hT1, hG⟩
  have hT2 := hT2.frLo hG (by simp; right; omega) (by simp; omega)
  have hF3 := hF2.sub hG (by intro y hy; simp at hy; right; exact hsub.out y (Or.inl hy))
  have HT1 := Lib.hid hT1
  clear hF2 hG B1 hT1
  go_wp2_with fail
  go_loopw [8] (fun iv wr => ∃ j : Nat, j ≤ n ∧ iv = .int .i64 j ∧ Tp wr 48 g2 w1.heap.size g2 (aft j l 0).1 (aft j l 0).2 ∧ Fr [] w wr ∧ Fr [g2] w3 wr) (fun iv _ => n - (intOf iv).toNat)
  case atStart => exact ⟨0, by omega, rfl, hT2, hF3, Fr.refl _ _⟩
  case round =>
    clear hT2 hF3
    obtain ⟨j, hj, rfl, hT, hF, hF3⟩ := hrel
    by_cases hjn : j < n
    · have hdr := (Fr.refl [] wr).drew
      have ha := aft_le j l 0
      have hN := tnext_any (hT.fr0 hdr) (n := 256) (by decide) (by decide) (by omega) (by omega)
      have hix := HIX.out j hjn
      obtain ⟨x, hx⟩ : ∃ x, dv (aft j l 0).1 (aft j l 0).2 256 = x := ⟨_, rfl⟩
      rw [hx] at hN hix
      have hd := dv_in (aft j l 0).1 (aft j l 0).2 256 (by decide)
      rw [hx] at hd
      have hwx : IntKind.i64.wrap x = x := by rw [IntKind.wrap_i64]; omega
      have hxx : (x != x) = false := by simp
      have HN := Lib.hid hN
      have HTn := Lib.hid (show ∀ W, Tp W 48 g2 w1.heap.size g2 (aft j l 0).1.tail (nx (aft j l 0).1 (aft j l 0).2) → Tp W 48 g2 w1.heap.size g2 (aft (j + 1) l 0).1 (aft (j + 1) l 0).2 from fun _ h => h)
      have hjb : (j : Int) ≤ 64 := by omega
      have hG0 : True := trivial
      clear ha hN hx hT
      go_wp2_with fail
      go_region_held3 (fun W => True) (first | trivial | exact hG0) (first | (go_at_call 21; refine HN.out.mono ?_; rintro e w5 ⟨rfl, hT5, hF5⟩))
      all_goals
        have hT6 := HTn.out _ hT5
        have hF6 := hF.sub (hdr.mono (S' := [g2]) (by simp) |>.trans hF5) (by intro y hy; simp at hy; right; exact hsub.out y (Or.inr hy))
        have hF7 := hF3.trans ((hdr.mono (S' := [g2]) (by simp)).trans hF5)
        have HT6 := Lib.hid hT6
        clear HN HTn hT5 hF5 hF hF3 hdr hix hT6
        go_wp2_with fail
        go_roundw
        case rel => exact ⟨j + 1, by omega, by go_num, HT6.out, hF6, hF7⟩
        case measure => (simp [intOf]) <;> omega
    · obtain rfl : j = n := by omega
      have hge : ¬ (j : Int) < j := by omega
      have hT1 := HT1.out.fr hF3 (by simp; omega) (by simp; omega)
      have L1 := Lib.hid fun (W : World) (hW : Fr [] wr W) => tp_left (hT1.fr0 hW)
      have L2 := Lib.hid fun (W : World) (hW : Fr [] wr W) => tp_left (hT.fr0 hW)
      have hal := aft_len j l 0
      rw [hal] at L1 L2
      have hmx : max ((l.length : Int) - (j : Int)) 0 = ((l.length - j : Nat) : Int) := by omega
      clear hT hT1 hF3 hal hjn hj
      go_wp2_with fail
      refine (alive3 _).mono ?_
      rintro e w5 ⟨rfl, hF5⟩
      go_wp2_with fail
      refine (L1.out _ hF5).mono ?_
      rintro e w6 ⟨rfl, rfl⟩
      go_wp2_with fail
      refine (L2.out _ hF5).mono ?_
      rintro e w6 ⟨rfl, rfl⟩
      go_wp2_with fail
      refine (L1.out _ hF5).mono ?_
      rintro e w6 ⟨rfl, rfl⟩
      have hF6 := hF.trans hF5
      clear L1 L2 hF hF5
      go_wp2_with fail
      go_ret
      exact ⟨rfl, hF6.below (Nat.le_refl _) (by simp)⟩
set_option maxRecDepth 100000 in
set_option maxHeartbeats 4000000 in
theorem tapeBytes_walk (w : World) (a : Option Addr) (len cap : Nat) (l : List Int) (hl : IsInts w a len cap l) (n : Int) (n0 : -9223372036854775808 ≤ n) (n1 : n ≤ 9223372036854775807) :
    Calls Try.prog 6 #[.slice a len cap, .int .i64 n] w fun e w' => e = .returned (.bool true) ∧ Below w.heap.size w w' := by
  by_cases h : (len : Int) ≤ 200 ∧ 0 ≤ n ∧ n ≤ 64
  · obtain ⟨m, rfl⟩ : ∃ m : Nat, n = m := ⟨n.toNat, by omega⟩
    exact bytes_small w m a len cap l hl (by omega) (by omega)
  · have hX : (200 : Int) < len ∨ ¬ (200 : Int) < len ∧ n < 0 ∨ ¬ (200 : Int) < len ∧ ¬ n < 0 ∧ 64 < n := by omega
    have hmax := hl.2.2.1
    have hcap := hl.2.1
    unfold maxLen at hmax
    clear h hl
    rcases hX with h1 | ⟨h1, h2⟩ | ⟨h1, h2, h3⟩
    all_goals
      go_enter Try.func6, Try.ntmps6
      go_wp2_with fail
      refine (alive3 _).mono ?_
      rintro e w1 ⟨rfl, hG⟩
      go_wp2_with fail
      go_ret
      exact ⟨rfl, hG.below (Nat.le_refl _) (by simp)⟩
end Go.Proofs.Ytgmlkdchnpacaaa
