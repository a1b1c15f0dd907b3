/- TapeDraws, walked. -/
import Derived.Test.YtgmlkdchnpacaaaLawT2
namespace Go.Proofs.Ytgmlkdchnpacaaa
open Go.RowKit Go.Maps
set_option linter.unusedVariables false
theorem and127 (n : Int) : bits .and .i64 n 127 = n % 128 := by
  show IntKind.i64.wrap ((BitVec.ofInt 64 n &&& BitVec.ofInt 64 127).toNat : Int) = _
  have h7 : (BitVec.ofInt 64 127).toNat = 2 ^ 7 - 1 := by decide
  have hn : (BitVec.ofInt 64 n).toNat = (n % 18446744073709551616).toNat := by rw [BitVec.toNat_ofInt]; rfl
  rw [BitVec.toNat_and, h7, Nat.and_two_pow_sub_one_eq_mod, hn, IntKind.wrap_i64]
  simp only [Nat.reducePow]
  omega
section
variable {w : World} {gt lt bt gr lr br : Nat} {xs : List Int} {k : Int}
/-- both tapes asked for one draw -/
theorem both_next (n : Int) (n1 : n ≤ 9223372036854775807) (k0 : 0 ≤ k) (k1 : k ≤ 1099511627776) : ∃ (v : Int) (xs' : List Int) (k' : Int), k ≤ k' ∧ k' ≤ k + 1 ∧
    (∀ W, Tp W 48 gt lt bt xs k → Calls Try.prog 21 #[.pointer (some ⟨gt, 0, none⟩), .int .i64 n] W fun e w' => e = .returned (.int .i64 v) ∧ Tp w' 48 gt lt bt xs' k' ∧ Fr [gt] W w') ∧
    (∀ W, Tp W 45 gr lr br xs k → Calls Try.prog 22 #[.pointer (some ⟨gr, 0, none⟩), .int .i64 n] W fun e w' => e = .returned (.int .i64 v) ∧ Tp w' 45 gr lr br xs' k' ∧ Fr [gr] W w') := by
  by_cases h : n < 1
  · exact ⟨0, xs, k, Int.le_refl _, by omega, fun W hT => (tnext_low h).mono fun e w' ⟨he, hw⟩ => ⟨he, by rw [hw]; exact hT, by rw [hw]; exact Fr.refl _ _⟩, fun W hT => (dnext_low h).mono fun e w' ⟨he, hw⟩ => ⟨he, by rw [hw]; exact hT, by rw [hw]; exact Fr.refl _ _⟩⟩
  · exact ⟨dv xs k n, xs.tail, nx xs k, (nx_le xs k).1, (nx_le xs k).2, fun W hT => tnext_any hT (by omega) n1 k0 k1, fun W hT => dnext_any hT (by omega) n1 k0 k1⟩
theorem both_bytes (n : Int) (n0 : 0 ≤ n) (n1 : n ≤ 127) (k0 : 0 ≤ k) (k1 : k + 64 ≤ 1099511627776) : ∃ (v : List UInt8) (xs' : List Int) (k' : Int), v.length ≤ 64 ∧ k ≤ k' ∧ k' ≤ k + 64 ∧
    (∀ W, Tp W 48 gt lt bt xs k → Calls Try.prog 19 #[.pointer (some ⟨gt, 0, none⟩), .int .i64 n] W fun e w' => e = .returned (.string (B v)) ∧ Tp w' 48 gt lt bt xs' k' ∧ Fr [gt] W w') ∧
    (∀ W, Tp W 45 gr lr br xs k → Calls Try.prog 20 #[.pointer (some ⟨gr, 0, none⟩), .int .i64 n] W fun e w' => e = .returned (.string (B v)) ∧ Tp w' 45 gr lr br xs' k' ∧ Fr [gr] W w') := by
  by_cases h : n < 1 ∨ 64 < n
  · exact ⟨[], xs, k, by simp, Int.le_refl _, by omega, fun W hT => (tbytes_bad h).mono fun e w' ⟨he, hw⟩ => ⟨he, by rw [hw]; exact hT, by rw [hw]; exact Fr.refl _ _⟩, fun W hT => (dbytes_bad h).mono fun e w' ⟨he, hw⟩ => ⟨he, by rw [hw]; exact hT, by rw [hw]; exact Fr.refl _ _⟩⟩
  · obtain ⟨m, rfl⟩ : ∃ m : Nat, n = m := ⟨n.toNat, by omega⟩
    have ha := aft_le m xs k
    exact ⟨bytesOf (bys m xs k), (aft m xs k).1, (aft m xs k).2, by unfold bytesOf; rw [List.length_map, bys_len]; omega, ha.1, by omega, fun W hT => tbytes_ok m hT (by omega) (by omega) k0 k1, fun W hT => dbytes_ok m hT (by omega) (by omega) k0 k1⟩
theorem tlen_cell {T g lo B : Nat} (h : Tp w T g lo B xs k) : ∃ A cap, w.cell? ⟨g, 0, none⟩ = some (.slice A xs.length cap) := by
  obtain ⟨⟨A, cap, hb, _⟩, _⟩ := h
  exact ⟨A, cap, hb.c 0 _ rfl⟩
/-- an empty tape -/
theorem Tp.empty (W : World) (T : Nat) : Tp (W.alloc (.cells #[.slice none 0 0, .int .i64 0] T (0, 0))) T W.heap.size 0 0 [] 0 :=
  ⟨⟨none, 0, Blk.new W _ _, Reads.none_, Nat.le_refl _, by simp, by simp⟩, Nat.zero_le _, by simp⟩
end
/-- both tapes, and what keeps them apart -/
structure Both (w : World) (base gt lt bt gr lr br : Nat) (xs : List Int) (k : Int) : Prop where
  t : Tp w 48 gt lt bt xs k
  r : Tp w 45 gr lr br xs k
  ne : gt ≠ gr
  bt : bt ≤ gr ∨ gr < lt
  br : br ≤ gt ∨ gt < lr
  nt : base ≤ gt
  nr : base ≤ gr
theorem Both.fr0 {w w' : World} {base gt lt bt gr lr br : Nat} {xs : List Int} {k : Int} (h : Both w base gt lt bt gr lr br xs k) (hF : Fr [] w w') : Both w' base gt lt bt gr lr br xs k :=
  ⟨h.t.fr0 hF, h.r.fr0 hF, h.ne, h.bt, h.br, h.nt, h.nr⟩
theorem Both.step {w w1 w2 : World} {base gt lt bt gr lr br : Nat} {xs xs' : List Int} {k k' : Int} (h : Both w base gt lt bt gr lr br xs k) (hT : Tp w1 48 gt lt bt xs' k') (hF : Fr [gt] w w1) (hR : Tp w2 45 gr lr br xs' k') (hG : Fr [gr] w1 w2) : Both w2 base gt lt bt gr lr br xs' k' :=
  ⟨hT.frLo hG (by simp; exact h.bt) (by simp; exact h.ne), hR, h.ne, h.bt, h.br, h.nt, h.nr⟩
theorem own_blk {w : World} {base g n cap : Nat} {e : TypeId} {ys : List Value} (h : w.ownsRow base e 1 (.slice (some ⟨g, 0, none⟩) n cap) n ys) : ∃ cur, Blk w g cur e ∧ cur.size = cap ∧ base ≤ g := by
  rcases h.2 with ⟨h1, _⟩ | ⟨g2, c2, cur, h1, h2, hg, _, _, h5, _⟩
  · cases h1
  · cases h1
    exact ⟨cur, hg, by rw [h5]; omega, h2⟩
set_option maxRecDepth 100000 in
set_option maxHeartbeats 20000000 in
theorem draws_small (w : World) (a : Option Addr) (len cap : Nat) (l : List Int) (hl : IsInts w a len cap l) (a2 : Option Addr) (len2 cap2 : Nat) (l2 : List Int) (hl2 : IsInts w a2 len2 cap2 l2) (zero : Bool) (s1 : len ≤ 300) (s2 : len2 ≤ 300) :
    Calls Try.prog 5 #[.slice a len cap, .slice a2 len2 cap2, .bool zero] w fun e w' => e = .returned (.bool true) ∧ Below w.heap.size w w' := by
  have hR := hl.reads
  have HL2 := Lib.hid hl2
  have hmax2 := hl2.2.2.1
  have hcap2 := hl2.2.1
  obtain ⟨hlen, hcap, hmax, hV, _⟩ := hl
  subst hlen
  have LT := Lib.hid (lent_any (c := cap) hR (by omega))
  have h1 : ¬ (300 : Int) < l.length := by omega
  have h2 : ¬ (300 : Int) < len2 := by omega
  have hl0 := hR
  have HV := Lib.hid hV
  unfold maxLen at hmax hmax2
  clear hR hV hl2
  go_enter Try.func5, Try.ntmps5
  go_wp2_with fail
  refine LT.out.mono ?_
  rintro e w1 ⟨gm, capm, rfl, hown, hF1⟩
  have hcm := own_cap hown
  obtain ⟨cur0, hcur0, hcs0, hgm⟩ := own_blk hown
  have hgml := hcur0.lt
  have hrm : Reads w1 w1.heap.size 1 (some ⟨gm, 0, none⟩) l.length (l.map i64V) := by
    refine ⟨by simp, fun _ => ⟨_, rfl, hgml, fun j u hu => ?_⟩⟩
    have e : (⟨gm, 0, none⟩ : Addr).add j = ⟨gm, j, none⟩ := by unfold Addr.add; split <;> simp_all
    have hj : j < l.length := by have := (List.getElem?_eq_some_iff.1 hu).1; simpa using this
    rw [e, hown.cellAt j (by omega), List.map_append, List.getElem?_append_left (by simpa using hj)]
    exact hu
  have TN := Lib.hid (tnew_any (c := capm) hrm (by omega) HV.out)
  have HOwn := Lib.hid hown
  clear LT hrm
  go_wp2_with fail
  refine TN.out.mono ?_
  rintro e w2 ⟨gt, rfl, hgt, hT, hF2⟩
  have hr2 := hl0.fr (w' := w2) (hF1.trans hF2) (Nat.le_refl _) (by simp)
  have hF02 := hF1.trans hF2
  have hTl := hT.lt
  have hs1 := hF1.size
  have hR0 : Tp (w2.alloc (.cells #[.slice a l.length cap, .int .i64 0] 45 (0, 0))) 45 w2.heap.size 0 w.heap.size l 0 :=
    ⟨⟨a, cap, Blk.new w2 _ _, hr2.fr (((Fr.refl [] w2).alloc (.cells #[.slice a l.length cap, .int .i64 0] 45 (0, 0)))) (hF02.size) (by simp), hcap, by unfold maxLen; omega, by simp⟩, hF02.size, HV.out⟩
  have hFa := (Fr.refl [] w2).alloc (.cells #[.slice a l.length cap, .int .i64 0] 45 (0, 0))
  have hT0 := hT.fr0 hFa
  have hF2a := hF2.trans hFa
  have hF0a := hF02.trans hFa
  obtain ⟨W3, hW3⟩ : ∃ W, w2.alloc (.cells #[.slice a l.length cap, .int .i64 0] 45 (0, 0)) = W := ⟨_, rfl⟩
  have SI := Lib.hid (stays_ints (w := W3) (c' := cap) (own_fr HOwn.out (hW3 ▸ hF2a) (by simp)) (hl0.fr (hW3 ▸ hF0a) (Nat.le_refl _) (by simp)) (by omega))
  have hcur3 := (hW3 ▸ hF2a).blk hcur0 (by simp)
  go_wp2_with fail
  obtain ⟨gr, hgr⟩ : ∃ q, w2.heap.size = q := ⟨_, rfl⟩
  rw [hgr] at hR0 ⊢
  rw [hW3] at hR0 hT0 hF0a
  have hn1 : gm ≠ gt := by omega
  have hn2 : gm ≠ gr := by omega
  have hn3 : gt ≠ gr := by omega
  have hn4 : gt ≤ gr := by omega
  have hn5 : w.heap.size ≤ gt := by omega
  have hn6 : w.heap.size ≤ gr := by omega
  have hgml2 : gm < w1.heap.size := hgml
  obtain ⟨L1, hL1⟩ : ∃ q, w1.heap.size = q := ⟨_, rfl⟩
  rw [hL1] at hT0 hgml2
  have hcm1 := hcm.1
  have hcm2 := hcm.2
  unfold maxLen at hcm2
  clear hgr hW3 hr2 hF02 hTl hs1 hFa hF2a hl0 HOwn hcur0 hown hF1 hF2 hT TN hgt hL1 hgml hcm
  refine SI.out.mono ?_
  rintro e w4 ⟨rfl, hF34⟩
  have hT4 := hT0.fr0 hF34
  have hR4 := hR0.fr0 hF34
  have hcur4 := hF34.blk hcur3 (by simp)
  have hF4 := hF0a.trans hF34
  have HT4 := Lib.hid hT4
  have HR4 := Lib.hid hR4
  have HF4 := Lib.hid hF4
  clear SI hT0 hR0 hcur3 hF0a hF34 hT4 hR4 hF4
  go_wp2_with fail
  go_loopw [10] (fun iv wr => ∃ (j : Nat) (cur : Array Value), j ≤ l.length ∧ iv = .int .i64 j ∧ Blk wr gm cur 3 ∧ cur.size = capm ∧ Fr [gm] w4 wr) (fun iv _ => l.length - (intOf iv).toNat)
  case atStart => exact ⟨0, cur0, by omega, rfl, hcur4, hcs0, Fr.refl _ _⟩
  case round =>
    clear hcur4 hcs0
    obtain ⟨j, cur, hj, rfl, hC, hcs, hF⟩ := hrel
    by_cases hjl : j < l.length
    · have c0 : wr.cell? ⟨gm, j, none⟩ = some (cur[j]'(by omega)) := hC.c j _ (Array.getElem?_eq_getElem (by omega))
      have f0 := hC.fz j
      have hjb : (j : Int) ≤ 300 := by omega
      have HC := Lib.hid (hC.set j (.int .i64 5))
      have HF := Lib.hid (hF.setCell (p := ⟨gm, j, none⟩) (by simp) (.int .i64 5))
      have hcs2 : (cur.setIfInBounds j (.int .i64 5)).size = capm := by simp; exact hcs
      clear hC hF
      go_wp2_with fail
      go_roundw
      case rel => exact ⟨j + 1, _, by omega, by go_num, HC.out, hcs2, HF.out⟩
      case measure => (simp [intOf]) <;> omega
    · obtain rfl : j = l.length := by omega
      have hge : ¬ (l.length : Int) < l.length := by omega
      have hB : Both wr w.heap.size gt L1 gt gr 0 w.heap.size l 0 := ⟨HT4.out.frLo hF (by simp; right; omega) (by simp; omega), HR4.out.frLo hF (by simp; omega) (by simp; omega), by omega, by omega, by omega, by omega, by omega⟩
      have hF5 := HF4.out.sub hF (by intro y hy; simp at hy; right; omega)
      clear hF hC hcs hj hjl HT4 HR4 HF4
      have HB := Lib.hid hB
      clear hB
      go_upto_if 46 with fail
      go_cut [8, 9] (fun s8 s9 wx => ∃ (gt lt bt gr lr br : Nat) (xs : List Int), s8 = .pointer (some ⟨gt, 0, none⟩) ∧ s9 = .pointer (some ⟨gr, 0, none⟩) ∧ Both wx w.heap.size gt lt bt gr lr br xs 0 ∧ Fr [] w wx)
      case first =>
        cases zero with
        | false =>
          go_wp2_with fail
          go_meet
          exact ⟨gt, L1, gt, gr, 0, w.heap.size, l, rfl, rfl, HB.out, hF5⟩
        | true =>
          have hA := (Fr.refl [] wr).alloc (.cells #[.slice none 0 0, .int .i64 0] 48 (0, 0))
          have hA2 := (Fr.refl [] (wr.alloc (.cells #[.slice none 0 0, .int .i64 0] 48 (0, 0)))).alloc (.cells #[.slice none 0 0, .int .i64 0] 45 (0, 0))
          have hB2 := Lib.hid (Both.mk (base := w.heap.size) ((Tp.empty wr 48).fr0 hA2) (Tp.empty (wr.alloc (.cells #[.slice none 0 0, .int .i64 0] 48 (0, 0))) 45) (by simp) (Or.inl (Nat.zero_le _)) (Or.inl (Nat.zero_le _)) hF5.size (by have := hF5.size; simp; omega))
          have hF6 := Lib.hid (hF5.trans (hA.trans hA2))
          have e1 : (wr.alloc (.cells #[.slice none 0 0, .int .i64 0] 48 (0, 0))).heap.size = wr.heap.size + 1 := by simp
          rw [e1] at hB2
          clear hA hA2 hF5 HB e1
          go_wp2_with fail
          go_meet
          exact ⟨_, _, _, _, _, _, _, rfl, rfl, hB2.out, hF6.out⟩
      case rest =>
        clear HB hF5 hge hn1 hn2 hn3 hn4 hn5 hn6 hgml2 hgm hcm1 hcm2 hcap hmax s1
        obtain ⟨gt, lt, bt, gr, lr, br, xs, rfl, rfl, hB, hF⟩ := hcut
        have HX := Lib.hid fun (y : Nat) (hy : y = gt ∨ y = gr) => show w.heap.size ≤ y by have := hB.nt; have := hB.nr; omega
        go_wp2_with fail
        go_loopw [11] (fun iv wr => ∃ (j : Nat) (ys : List Int) (k : Int), j ≤ len2 ∧ iv = .int .i64 j ∧ 0 ≤ k ∧ k ≤ 64 * (j : Int) ∧ Both wr w.heap.size gt lt bt gr lr br ys k ∧ Fr [] w wr) (fun iv _ => len2 - (intOf iv).toNat)
        case atStart => exact ⟨0, xs, 0, by omega, rfl, by omega, by omega, hB, hF⟩
        case round =>
          clear hB hF
          obtain ⟨j, ys, k, hj, rfl, k0, k1, hB, hF⟩ := hrel
          by_cases hjl : j < len2
          · obtain ⟨bb, off, x, rfl, hbb, hx, hxV, hcell⟩ := HL2.out.at_ j hjl
            have HC0 : Hid (∀ W, Fr [] w W → W.cell? ⟨bb, off + j, none⟩ = some (.int .i64 x)) := Lib.hid fun W hW => by have := hcell W hW 0 _ rfl; simpa [i64V] using this
            have hjb : (j : Int) ≤ 300 := by omega
            obtain ⟨x0, x1⟩ := hxV
            have hd := (Fr.refl [] wr).drew
            have hBd := hB.fr0 hd
            have hFd := hF.trans hd
            have HBd := Lib.hid hBd
            have HFd := Lib.hid hFd
            have hG0 := HC0.out _ hFd
            clear hcell hx hB hF hBd hFd hd
            have HR1 : Hid (∀ W, Fr [gt] wr.drew W → Fr [] w W) := Lib.hid fun W h => HFd.out.sub h (by intro y hy; simp at hy; right; exact HX.out y (Or.inl hy))
            have HR2 : Hid (∀ V W, Fr [gt] wr.drew V → Fr [gr] V W → Fr [] w W) := Lib.hid fun V W h k => (HR1.out V h).sub k (by intro y hy; simp at hy; right; exact HX.out y (Or.inr hy))
            have HS1 := Lib.hid fun W h => HC0.out W (HR1.out W h)
            have HS2 := Lib.hid fun V W h k => HC0.out W (HR2.out V W h k)
            have HT := Lib.hid HBd.out.t
            have HR : Hid (∀ W, Fr [gt] wr.drew W → Tp W 45 gr lr br ys k) := Lib.hid fun W h => HBd.out.r.frLo h (by simp; exact HBd.out.br) (by simp; exact fun e => HBd.out.ne e.symm)
            obtain ⟨n, hn⟩ : ∃ n, x % 128 = n := ⟨_, rfl⟩
            have hand : bits .and .i64 x 127 = n := (and127 x).trans hn
            have hkb : Hid (0 ≤ k ∧ k + 64 ≤ 64 * ((j + 1 : Nat) : Int) ∧ k + 64 ≤ 1099511627776) := Lib.hid ⟨k0, by omega, by omega⟩
            have HB2 := Lib.hid (both_bytes (gt := gt) (lt := lt) (bt := bt) (gr := gr) (lr := lr) (br := br) (xs := ys) (k := k) n (by omega) (by omega) k0 (by omega))
            have HN2 := Lib.hid (both_next (gt := gt) (lt := lt) (bt := bt) (gr := gr) (lr := lr) (br := br) (xs := ys) (k := k) x x1 k0 (by omega))
            clear hn k0 k1 x0 x1 hbb
            go_wp2_with fail
            · obtain ⟨v, ys', k', hv, hk1, hk2, hT1, hT2⟩ := HB2.out
              have hk3 : Hid (0 ≤ k' ∧ k' ≤ 64 * ((j + 1 : Nat) : Int)) := Lib.hid ⟨by have := hkb.out; omega, by have := hkb.out; omega⟩
              have T1 := Lib.hid hT1
              have T2 := Lib.hid hT2
              clear hT1 hT2 hv HB2 HN2 hk1 hk2 hkb
              go_region_held3 (fun W => W.cell? ⟨bb, off + j, none⟩ = some (.int .i64 x))
                (first | exact hG0 | assumption | exact HS1.out _ hF5 | exact HS2.out _ _ hF5 hF6)
                (first
                  | (go_at_call 19; refine (T1.out _ HT.out).mono ?_; rintro e w5 ⟨rfl, hT5, hF5⟩)
                  | (go_at_call 20; refine (T2.out _ (HR.out _ hF5)).mono ?_; rintro e w6 ⟨rfl, hR6, hF6⟩))
              all_goals
                have hB6 := HBd.out.step hT5 hF5 hR6 hF6
                have HF6 := Lib.hid (HR2.out _ _ hF5 hF6)
                have HL6 := Lib.hid fun N => tp_left (hB6.t.fr0 ((Fr.refl [] w6).drewN N))
                obtain ⟨A6, cp6, c6⟩ := tlen_cell hB6.r
                have HB6 := Lib.hid hB6
                clear hB6 hT5 hR6 hF5 hF6 HR HS1 HS2 HR1 HR2 HT T1 T2 HBd HFd hG0
                go_wp2_with fail
                go_quiet ((go_at_call 23; exact Calls.quiet_of_same (HL6.out _)))
                go_wp2_with fail
                go_roundw
                case rel => exact ⟨j + 1, ys', k', by omega, by go_num, hk3.out.1, hk3.out.2, HB6.out.fr0 ((Fr.refl [] _).drewN _), HF6.out.trans ((Fr.refl [] _).drewN _)⟩
                case measure => (simp [intOf]) <;> omega
            · obtain ⟨v, ys', k', hk1, hk2, hT1, hT2⟩ := HN2.out
              have hk3 : Hid (0 ≤ k' ∧ k' ≤ 64 * ((j + 1 : Nat) : Int)) := Lib.hid ⟨by have := hkb.out; omega, by have := hkb.out; omega⟩
              have T1 := Lib.hid hT1
              have T2 := Lib.hid hT2
              clear hT1 hT2 HB2 HN2 hk1 hk2 hkb
              go_region_held3 (fun W => W.cell? ⟨bb, off + j, none⟩ = some (.int .i64 x))
                (first | exact hG0 | assumption | exact HS1.out _ hF5 | exact HS2.out _ _ hF5 hF6)
                (first
                  | (go_at_call 21; refine (T1.out _ HT.out).mono ?_; rintro e w5 ⟨rfl, hT5, hF5⟩)
                  | (go_at_call 22; refine (T2.out _ (HR.out _ hF5)).mono ?_; rintro e w6 ⟨rfl, hR6, hF6⟩))
              all_goals
                have hB6 := HBd.out.step hT5 hF5 hR6 hF6
                have HF6 := Lib.hid (HR2.out _ _ hF5 hF6)
                have HL6 := Lib.hid fun N => tp_left (hB6.t.fr0 ((Fr.refl [] w6).drewN N))
                obtain ⟨A6, cp6, c6⟩ := tlen_cell hB6.r
                have HB6 := Lib.hid hB6
                clear hB6 hT5 hR6 hF5 hF6 HR HS1 HS2 HR1 HR2 HT T1 T2 HBd HFd hG0
                go_wp2_with fail
                go_quiet ((go_at_call 23; exact Calls.quiet_of_same (HL6.out _)))
                go_wp2_with fail
                go_roundw
                case rel => exact ⟨j + 1, ys', k', by omega, by go_num, hk3.out.1, hk3.out.2, HB6.out.fr0 ((Fr.refl [] _).drewN _), HF6.out.trans ((Fr.refl [] _).drewN _)⟩
                case measure => (simp [intOf]) <;> omega
          · obtain rfl : j = len2 := by omega
            have hge : ¬ (j : Int) < j := by omega
            have HF := Lib.hid hF
            clear hB hF hj hjl k0 k1
            go_wp2_with fail
            refine (alive3 _).mono ?_
            rintro e w5 ⟨rfl, hF5⟩
            go_wp2_with fail
            refine tnext_none.mono ?_
            rintro e w6 ⟨rfl, rfl⟩
            go_wp2_with fail
            refine tp_left_none.mono ?_
            rintro e w6 ⟨rfl, rfl⟩
            go_wp2_with fail
            refine (tnew_any (A := none) (xs := []) (c := 0) Reads.none_ (by simp) (by simp)).mono ?_
            rintro e w7 ⟨g7, rfl, _, hT7, hF7⟩
            go_wp2_with fail
            refine (tp_left hT7).mono ?_
            rintro e w8 ⟨rfl, rfl⟩
            have HF8 := Lib.hid (HF.out.trans (hF5.trans hF7))
            clear hF5 hF7 hT7
            go_wp2_with fail
            go_ret
            exact ⟨rfl, HF8.out.below (Nat.le_refl _) (by simp)⟩
set_option maxRecDepth 100000 in
set_option maxHeartbeats 4000000 in
theorem tapeDraws_walk (w : World) (a : Option Addr) (len cap : Nat) (l : List Int) (hl : IsInts w a len cap l) (a2 : Option Addr) (len2 cap2 : Nat) (l2 : List Int) (hl2 : IsInts w a2 len2 cap2 l2) (zero : Bool) :
    Calls Try.prog 5 #[.slice a len cap, .slice a2 len2 cap2, .bool zero] w fun e w' => e = .returned (.bool true) ∧ Below w.heap.size w w' := by
  by_cases h : (len : Int) ≤ 300 ∧ (len2 : Int) ≤ 300
  · exact draws_small w a len cap l hl a2 len2 cap2 l2 hl2 zero (by omega) (by omega)
  · have hX : (300 : Int) < len ∨ ¬ (300 : Int) < len ∧ (300 : Int) < len2 := by omega
    have hmax := hl.2.2.1
    have hcap := hl.2.1
    have hmax2 := hl2.2.2.1
    have hcap2 := hl2.2.1
    unfold maxLen at hmax hmax2
    clear h hl hl2
    rcases hX with h1 | ⟨h1, h2⟩
    all_goals
      go_enter Try.func5, Try.ntmps5
      go_wp2_with fail
      refine (alive3 _).mono ?_
      rintro e w1 ⟨rfl, hG⟩
      go_wp2_with fail
      go_ret
      exact ⟨rfl, hG.below (Nat.le_refl _) (by simp)⟩
end Go.Proofs.Ytgmlkdchnpacaaa
