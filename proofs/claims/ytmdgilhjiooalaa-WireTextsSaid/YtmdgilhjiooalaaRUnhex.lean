/- tollgateref1.Unhex; the walk of WireTexts. -/
import Derived.Test.YtmdgilhjiooalaaDigLaw
import Derived.Deep.QuietTactic
namespace Go.Proofs.Ytmdgilhjiooalaa
open Go.RowKit
set_option linter.unusedVariables false

theorem hexD_iff (x A : Int) (h0 : 0 ≤ x) (h1 : x < 16) : (hexD x == A) = (isD A && (dv A == x)) := by
  have hb := hexD_bd x h0 h1
  rw [Bool.eq_iff_iff, Bool.and_eq_true, beq_iff_eq, beq_iff_eq]
  constructor
  · intro e; rw [← e]; exact ⟨hb.2.2.1, hb.2.2.2⟩
  · rintro ⟨ha, hd⟩
    simp only [isD, decide_eq_true_eq] at ha
    unfold dv at hd
    unfold hexD
    split at hd
    · rw [if_pos (by omega)]; omega
    · rw [if_pos (by omega)] at hd; rw [if_neg (by omega)]; omega
theorem hexD_dv (A : Int) (h : isD A = true) : hexD (dv A) = A := by
  have hb := dv_bd A
  have := hexD_iff (dv A) A hb.1 hb.2
  rw [h, beq_self_eq_true, Bool.and_true] at this
  exact beq_iff_eq.1 this
theorem valsN_cons (a b : UInt8) (t : List UInt8) (k : Nat) : valsN (a :: b :: t) (k + 1) = (dv (a.toNat : Int) * 16 + dv (b.toNat : Int)) :: valsN t k := by
  induction k with
  | zero => rfl
  | succ k ih =>
    rw [valsN, ih]
    show _ = _ :: (valsN t k ++ [_])
    rfl
theorem hex_unh (n : Nat) (l : List UInt8) (hl : l.length = 2 * n) (ha : l.all isDb = true) : hexB (bytesOf (valsN l n)) = l := by
  induction n generalizing l with
  | zero =>
    have : l = [] := List.eq_nil_of_length_eq_zero (by omega)
    subst this; rfl
  | succ n ih =>
    match l, hl, ha with
    | a :: b :: t, hl, ha =>
      simp only [List.all_cons, Bool.and_eq_true] at ha
      have h1 := dv_bd (a.toNat : Int)
      have h2 := dv_bd (b.toNat : Int)
      have ba := byte_bd a
      have bb := byte_bd b
      have ea := hexD_dv (a.toNat : Int) ha.1
      have eb := hexD_dv (b.toNat : Int) ha.2.1
      have et := ih t (by simp at hl; omega) ha.2.2
      rw [valsN_cons]
      have e1 : bytesOf ((dv (a.toNat : Int) * 16 + dv (b.toNat : Int)) :: valsN t n) = UInt8.ofNat (dv (a.toNat : Int) * 16 + dv (b.toNat : Int)).toNat :: bytesOf (valsN t n) := by simp [bytesOf]
      rw [e1, hexB_cons, et, u8_toNat _ (by omega) (by omega), show (dv (a.toNat : Int) * 16 + dv (b.toNat : Int)) / 16 = dv (a.toNat : Int) from by omega,
        show (dv (a.toNat : Int) * 16 + dv (b.toNat : Int)) % 16 = dv (b.toNat : Int) from by omega, ea, eb]
      simp
    | [], hl, _ => simp at hl
    | [a], hl, _ => simp at hl; omega

theorem own_fr {w w' : World} {base : Nat} {e : TypeId} {size n : Nat} {v : Value} {xs : List Value} {S : List Nat} (h : w.ownsRow base e size v n xs) (hF : Fr S w w') (hS : ∀ k, v.ownBlock = some k → k ∉ S) : w'.ownsRow base e size v n xs := by
  obtain ⟨h1, h2⟩ := h
  refine ⟨h1, ?_⟩
  rcases h2 with h2 | ⟨g, cap, cur, hv, hg, hh, r⟩
  · exact Or.inl h2
  · subst hv
    exact Or.inr ⟨g, cap, cur, rfl, hg, (hF.block g (lt_of_block hh) (hS g rfl)).trans hh, r⟩
def pairR (l : List UInt8) (k : Nat) (c : Int) : List Int :=
  if isD (at0 l (2 * k)) = true ∧ isD (at0 l (2 * k + 1)) = true ∧ dv (at0 l (2 * k)) * 16 + dv (at0 l (2 * k + 1)) < c then [dv (at0 l (2 * k)) * 16 + dv (at0 l (2 * k + 1))] else []
def outR (l : List UInt8) : Nat → List Int
  | 0 => []
  | k + 1 => outR l k ++ pairR l k 256
theorem pairR_len (l : List UInt8) (k : Nat) (c : Int) : (pairR l k c).length ≤ 1 := by unfold pairR; split <;> simp
theorem outR_len (l : List UInt8) (k : Nat) : (outR l k).length ≤ k := by
  induction k with
  | zero => simp [outR]
  | succ k ih => have := pairR_len l k 256; simp only [outR, List.length_append]; omega
theorem outR_vals (l : List UInt8) (k : Nat) (hk : 2 * k ≤ l.length) (ha : l.all isDb = true) : outR l k = valsN l k := by
  induction k with
  | zero => rfl
  | succ k ih =>
    have h1 : isD (at0 l (2 * k)) = true := by rw [at0_at l _ (by omega)]; exact List.all_eq_true.1 ha _ (List.getElem_mem _)
    have h2 : isD (at0 l (2 * k + 1)) = true := by rw [at0_at l _ (by omega)]; exact List.all_eq_true.1 ha _ (List.getElem_mem _)
    have b1 := dv_bd (at0 l (2 * k))
    have b2 := dv_bd (at0 l (2 * k + 1))
    rw [outR, valsN, ih (by omega), pairR, if_pos ⟨h1, h2, by omega⟩]
theorem unh_of_hex (l o : List UInt8) (h : hexB o = l) : unhE l = 0 := by rw [← h]; exact (unh_hex o).1
theorem runh_ok (l : List UInt8) (K : Nat) (hK : l.length ≤ 2 * K + 1) (hK2 : 2 * K ≤ l.length) (h : unhE l = 0) :
    bytesOf (outR l K) = unhL l ∧ hexB (bytesOf (outR l K)) = l := by
  have hv : l.length % 2 = 0 ∧ l.all isDb = true := by
    apply Classical.byContradiction; intro hc
    unfold unhE at h; rw [if_neg hc] at h; omega
  have e : l.length = 2 * K := by omega
  have h1 := outR_vals l K hK2 hv.2
  have h2 : unhL l = bytesOf (valsN l K) := by unfold unhL; rw [if_pos h, show l.length / 2 = K from by omega]
  rw [h1, h2]
  exact ⟨rfl, hex_unh K l e hv.2⟩

theorem pairR_step (l : List UInt8) (k : Nat) (c : Int) (h0 : 0 ≤ c) (h1 : c < 256) :
    pairR l k (c + 1) = pairR l k c ++ (if (hexD (c / 16) == at0 l (2 * k)) = true ∧ (hexD (c % 16) == at0 l (2 * k + 1)) = true then [c] else []) := by
  have b1 := dv_bd (at0 l (2 * k))
  have b2 := dv_bd (at0 l (2 * k + 1))
  rw [hexD_iff _ _ (by omega) (by omega), hexD_iff _ _ (by omega) (by omega)]
  unfold pairR
  simp only [Bool.and_eq_true, beq_iff_eq]
  by_cases ha : isD (at0 l (2 * k)) = true ∧ isD (at0 l (2 * k + 1)) = true
  · by_cases hc : dv (at0 l (2 * k)) * 16 + dv (at0 l (2 * k + 1)) = c
    · rw [if_pos ⟨ha.1, ha.2, by omega⟩, if_neg (by omega), if_pos ⟨⟨ha.1, by omega⟩, ha.2, by omega⟩, hc]; rfl
    · rw [if_neg (c := (isD (at0 l (2 * k)) = true ∧ dv (at0 l (2 * k)) = c / 16) ∧ _) (fun h => hc (by omega)), List.append_nil]
      by_cases hlt : dv (at0 l (2 * k)) * 16 + dv (at0 l (2 * k + 1)) < c
      · rw [if_pos ⟨ha.1, ha.2, by omega⟩, if_pos ⟨ha.1, ha.2, hlt⟩]
      · rw [if_neg (fun h => by omega), if_neg (fun h => hlt h.2.2)]
  · rw [if_neg (fun h => ha ⟨h.1, h.2.1⟩), if_neg (fun h => ha ⟨h.1, h.2.1⟩), if_neg (fun h => ha ⟨h.1.1, h.2.1⟩)]; rfl

theorem nibble_q (x : Int) (w : World) (h0 : 0 ≤ x) (h1 : x < 16) :
    Calls Try.prog 50 #[.int .u8 x] w fun e w' => e = .returned (.int .u8 (hexD x)) ∧ w' = w :=
  (nibble_any x w h0 h1).mono fun _ _ ⟨he, hw⟩ => ⟨he, hw.symm⟩

set_option maxRecDepth 100000 in
set_option maxHeartbeats 4000000 in
theorem runhex_any (l : List UInt8) (w : World) (hl : l.length ≤ 1000000) :
    Calls Try.prog 30 #[.string (B l)] w fun e w' => e = .returned (.tuple #[.string (B (unhL l)), .int .i64 (unhE l)]) ∧ Fr [] w w' := by
  obtain ⟨i0, hi, hz0, hz1, hz2⟩ := info_parts infoB
  go_enter Try.func30, Try.ntmps30
  go_wp2
  go_loopw [4, 5] (fun v iv wr => ∃ k : Nat, 2 * k ≤ l.length ∧ iv = .int .i64 (2 * (k : Int)) ∧ wr.ownsRow w.heap.size 5 1 v (outR l k).length ((outR l k).map (Value.int .u8)) ∧ Fr [] w wr) (fun _ iv _ => l.length - (intOf iv).toNat)
  case atStart => exact ⟨0, Nat.zero_le _, rfl, World.ownsRow_nil _ _ _ _, Fr.refl _ _⟩
  case round =>
    obtain ⟨k, hk, rfl, hown, hF⟩ := hrel
    by_cases hlt : 2 * k + 1 < l.length
    · have hol := outR_len l k
      have e1 := at0_at l (2 * k) (by omega)
      have e2 := at0_at l (2 * k + 1) hlt
      obtain ⟨R, hR⟩ : ∃ R, outR l k = R := ⟨_, rfl⟩
      have hnext : outR l (k + 1) = R ++ pairR l k 256 := by rw [← hR]; rfl
      rw [hR] at hown hol
      have Hnext := Lib.hid hnext
      have E1 := Lib.hid e1
      have E2 := Lib.hid e2
      have i2' : 2 * (k : Int) + 1 < (l.length : Int) := by omega
      clear hnext hR e1 e2
      go_wp2
      go_loopw [4, 6] (fun v cv wr => ∃ c : Nat, c ≤ 256 ∧ cv = .int .i64 c ∧ wr.ownsRow w.heap.size 5 1 v (R ++ pairR l k c).length ((R ++ pairR l k c).map (Value.int .u8)) ∧ Fr [] w wr) (fun _ cv _ => 256 - (intOf cv).toNat)
      case atStart =>
        refine ⟨0, by omega, rfl, ?_, hF⟩
        have : pairR l k ((0 : Nat) : Int) = [] := by
          unfold pairR; rw [if_neg]
          have b1 := dv_bd (at0 l (2 * k))
          have b2 := dv_bd (at0 l (2 * k + 1))
          rintro ⟨_, _, h⟩; omega
        rw [this, List.append_nil]; exact hown
      case round =>
        obtain ⟨c, hc, rfl, hownc, hFc⟩ := hrel
        clear hown hF
        by_cases hc256 : c < 256
        · have hst := pairR_step l k c (by omega) (by omega)
          have hpl := pairR_len l k c
          rw [E1.out, E2.out] at hst
          have f1 : IntKind.u8.wrap ((c : Int) / 16) = (c : Int) / 16 := by rw [IntKind.wrap_u8]; omega
          have f2 : (c : Int).tmod 16 = (c : Int) % 16 := Int.tmod_eq_emod_of_nonneg (by omega)
          have hlen : (R ++ pairR l k c).length ≤ k + 1 := by rw [List.length_append]; omega
          obtain ⟨Q, hQ⟩ : ∃ Q, R ++ pairR l k (c : Int) = Q := ⟨_, rfl⟩
          have hQ2 : R ++ pairR l k ((c : Int) + 1) = Q ++ (if (hexD ((c : Int) / 16) == (l[2 * k].toNat : Int)) = true ∧ (hexD ((c : Int) % 16) == (l[2 * k + 1].toNat : Int)) = true then [(c : Int)] else []) := by
            rw [hst, ← List.append_assoc, hQ]
          rw [hQ] at hownc hlen
          have hcc : ((c + 1 : Nat) : Int) = (c : Int) + 1 := by omega
          have Hcc := Lib.hid hcc
          have i0' : (0 : Int) ≤ 2 * (k : Int) := by omega
          have i5' : (0 : Int) ≤ 2 * (k : Int) + 1 := by omega
          have i1' : 2 * (k : Int) < (l.length : Int) := by omega
          have i3' : (2 * (k : Int)).toNat = 2 * k := by omega
          have i4' : (2 * (k : Int) + 1).toNat = 2 * k + 1 := by omega
          have hw1 : IntKind.i64.wrap (2 * (k : Int) + 1) = 2 * (k : Int) + 1 := IntWalk.i64_in _ (by omega)
          have Hw1 := Lib.hid hw1
          clear hst hpl hcc hQ hw1
          by_cases p1 : (hexD ((c : Int) / 16) == (l[2 * k].toNat : Int)) = true
          · by_cases p2 : (hexD ((c : Int) % 16) == (l[2 * k + 1].toNat : Int)) = true
            · rw [if_pos ⟨p1, p2⟩] at hQ2
              have HQ2 := Lib.hid hQ2
              clear hQ2
              go_wp2
              have hw1 := Hw1.out
              go_quiet ((go_at_call 50; exact Calls.quiet_of_same (nibble_q _ _ (by omega) (by omega))))
              clear hw1
              go_wp2_with (at_builtin; refine wpList_append_own _ rfl _ _ 35 rfl w.heap.size 5 i0 (.int .u8 0) 1 1 Try.underlying35 hi hz0 hz1 hz2 rfl (by decide) _ _ _ rfl (World.ownsRow.alloc (show (wr.drewN nq).ownsRow _ _ _ _ _ _ from hownc) _) ⟨wr.heap.size, 0, none⟩ 1 1 [.int .u8 (c : Int)] rfl rfl ?c1 ?c2 ?c3 ?c4 ?c5 ?_)
              case c1 => exact new_cells (wr.drewN nq) _ _
              case c2 => simp [Value.oneCell']
              case c3 => unfold maxLen; omega
              case c4 => omega
              case c5 => have := hFc.size; simp; omega
              intro v' w1 hown' hgr' _
              have hF1 : Fr [] w w1 := ((hFc.drewN nq).alloc _).grown hgr' (own_new hownc)
              clear hgr' hownc hFc
              go_wp2
              go_roundw
              case rel =>
                refine ⟨c + 1, by omega, by go_num, ?_, hF1⟩
                rw [Hcc.out, HQ2.out, List.length_append, List.map_append]
                exact hown'
              case measure => (simp [intOf]) <;> omega
            · have p2' : (hexD ((c : Int) % 16) == (l[2 * k + 1].toNat : Int)) = false := by simpa using p2
              rw [if_neg (fun h => p2 h.2), List.append_nil] at hQ2
              have HQ2 := Lib.hid hQ2
              clear hQ2 p2
              go_wp2
              have hw1 := Hw1.out
              go_quiet ((go_at_call 50; exact Calls.quiet_of_same (nibble_q _ _ (by omega) (by omega))))
              clear hw1
              go_wp2
              go_roundw
              case rel =>
                refine ⟨c + 1, by omega, by go_num, ?_, hFc.drewN nq⟩
                rw [Hcc.out, HQ2.out]
                exact hownc
              case measure => (simp [intOf]) <;> omega
          · have p1' : (hexD ((c : Int) / 16) == (l[2 * k].toNat : Int)) = false := by simpa using p1
            rw [if_neg (fun h => p1 h.1), List.append_nil] at hQ2
            have HQ2 := Lib.hid hQ2
            clear hQ2 p1
            go_wp2
            go_quiet ((go_at_call 50; exact Calls.quiet_of_same (nibble_q _ _ (by omega) (by omega))))
            go_wp2
            go_roundw
            case rel =>
              refine ⟨c + 1, by omega, by go_num, ?_, hFc.drewN nq⟩
              rw [Hcc.out, HQ2.out]
              exact hownc
            case measure => (simp [intOf]) <;> omega
        · have : c = 256 := by omega
          subst this
          go_wp2
          go_roundw
          case rel =>
            refine ⟨k + 1, by omega, by congr 1, ?_, hFc⟩
            rw [Hnext.out]
            exact hownc
          case measure => (simp [intOf]) <;> omega
    · have hol := outR_len l k
      by_cases hE : unhE l = 0
      · obtain ⟨h1, h2⟩ := runh_ok l k (by omega) hk hE
        have hb : (hexB (unhL l) == l) = true := by rw [← h1, h2]; exact beq_self_eq_true l
        have hlen : (unhL l).length ≤ 1000000 := by rw [← h1]; simp [bytesOf]; omega
        have hcv := run_str_any (P := Try.prog) Try.underlying35 Try.underlying5 Try.underlying9 (outR l k) _ hown
        rw [h1] at hcv
        rw [h1] at h2
        have H2 := Lib.hid h2
        have H1 := Lib.hid h1
        have HE := Lib.hid hE
        clear h2 h1 hE
        go_wp2_with fail
        refine (rhex_any (unhL l) _ hlen).mono ?_
        rintro e w1 ⟨rfl, hF1⟩
        rw [show bytesOf (hexL (unhL l)) = hexB (unhL l) from rfl]
        obtain ⟨A, cc, rfl⟩ := owned_slice hown
        have hown1 : w1.ownsRow w.heap.size 5 1 (.slice A (outR l k).length cc) (outR l k).length ((outR l k).map (Value.int .u8)) := own_fr hown hF1 (by simp)
        have hcv1 := run_str_any (P := Try.prog) Try.underlying35 Try.underlying5 Try.underlying9 (outR l k) _ hown1
        rw [H1.out] at hcv1
        go_wp2
        go_ret2
        exact ⟨by rw [HE.out]; rfl, hF.trans hF1⟩
      · have hb : (hexB (bytesOf (outR l k)) == l) = false := by
          rw [beq_eq_false_iff_ne]; exact fun h => hE (unh_of_hex _ _ h)
        have e4 : unhE l = 4 := by unfold unhE; rw [if_neg (fun h => hE (by unfold unhE; rw [if_pos h]))]
        have e5 := unhL_err l e4
        have hlen : (bytesOf (outR l k)).length ≤ 1000000 := by simp [bytesOf]; omega
        have hcv := run_str_any (P := Try.prog) Try.underlying35 Try.underlying5 Try.underlying9 (outR l k) _ hown
        have E4 := Lib.hid e4
        have E5 := Lib.hid e5
        clear e4 e5 hE
        go_wp2_with fail
        refine (rhex_any (bytesOf (outR l k)) _ hlen).mono ?_
        rintro e w1 ⟨rfl, hF1⟩
        rw [show bytesOf (hexL (bytesOf (outR l k))) = hexB (bytesOf (outR l k)) from rfl]
        go_wp2
        go_ret2
        exact ⟨by rw [E4.out, E5.out]; rfl, hF.trans hF1⟩

set_option maxHeartbeats 1000000 in
theorem wireTexts_walk (w : World) (v : Int) (v0 : -9223372036854775808 ≤ v) (v1 : v ≤ 9223372036854775807) (s : ByteArray) (hs : s.size ≤ 140737488351232) :
    Calls Try.prog 10 #[.int .i64 v, .string s] w fun e w' => e = .returned (.bool true) ∧ Below w.heap.size w w' := by
  obtain ⟨l, rfl⟩ : ∃ l, s = B l := ⟨_, B_of s⟩
  rw [B_size] at hs
  by_cases hl : 6000 < l.length
  · have hl' : (6000 : Int) < l.length := by omega
    clear hl
    go_enter Try.func10, Try.ntmps10
    go_wp2_with fail
    refine (alive1 _).mono ?_
    rintro e w1 ⟨rfl, hF⟩
    go_wp2
    go_ret
    exact ⟨rfl, hF.below (Nat.le_refl _) (by simp)⟩
  · have hl' : ¬ (6000 : Int) < l.length := by omega
    clear hl
    go_enter Try.func10, Try.ntmps10
    go_wp2_with fail
    refine (number_any l _ (by omega)).mono ?_
    rintro e w1 ⟨rfl, rfl⟩
    go_wp2_with fail
    refine (rnumber_any l _ (by omega)).mono ?_
    rintro e w1 ⟨rfl, rfl⟩
    go_wp2_with fail
    refine (unhex_any l _ (by omega)).mono ?_
    rintro e w1 ⟨rfl, hF1⟩
    go_wp2_with fail
    refine (runhex_any l _ (by omega)).mono ?_
    rintro e w2 ⟨rfl, hF2⟩
    go_wp2_with fail
    refine (alive1 _).mono ?_
    rintro e w3 ⟨rfl, hF3⟩
    go_wp2_with fail
    refine (digits_any v _ v0 v1).mono ?_
    rintro e w4 ⟨rfl, hF4⟩
    go_wp2_with fail
    refine (rdigits_any v _ v0 v1).mono ?_
    rintro e w5 ⟨rfl, hF5⟩
    go_wp2_with fail
    refine (hex_any l _ (by omega)).mono ?_
    rintro e w6 ⟨rfl, hF6⟩
    go_wp2_with fail
    refine (rhex_any l _ (by omega)).mono ?_
    rintro e w7 ⟨rfl, hF7⟩
    go_wp2
    go_ret
    exact ⟨rfl, ((((((hF1.trans hF2).trans hF3).trans hF4).trans hF5).trans hF6).trans hF7).below (Nat.le_refl _) (by simp)⟩
end Go.Proofs.Ytmdgilhjiooalaa
