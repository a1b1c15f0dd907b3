/- TapeOrder, walked. -/
import Derived.Test.YtgmlkdchnpacaaaClock9
import Derived.Test.YtgmlkdchnpacaaaLawT4
namespace Go.Proofs.Ytgmlkdchnpacaaa
open Go.RowKit Go.Maps
set_option linter.unusedVariables false
theorem wrap_small (n : Nat) (h : n ≤ 300) : wrap64 (n : Int) = n := by unfold wrap64; omega
theorem wrapi_small (n : Nat) (h : n ≤ 300) : IntKind.i64.wrap (n : Int) = n := IntWalk.i64_in _ (by omega)
set_option maxRecDepth 100000 in
set_option maxHeartbeats 20000000 in
theorem order_small (w : World) (a : Option Addr) (len cap : Nat) (l : List OpR) (hl : IsOps w a len cap l) (n : Int) (l100 : len ≤ 100) (n0 : 1 ≤ n) (n1 : n ≤ 1000000) :
    Calls Try.prog 8 #[.slice a len cap, .int .i64 n] w fun e w' => e = .returned (.bool true) ∧ Below w.heap.size w w' := by
  have HL := Lib.hid hl
  have hmax := hl.2.2.1
  have hcap := hl.2.1
  unfold maxLen at hmax
  have h1 : ¬ (100 : Int) < len := by omega
  have h2 : ¬ n < 1 := by omega
  have h4 : ¬ 1000000 < n := by omega
  clear hl
  go_enter Try.func8, Try.ntmps8
  go_wp2_with fail
  refine (new_in w).mono ?_
  rintro e w1 ⟨ca, rfl, hC, hF1⟩
  go_wp2_with fail
  go_loopw [6] (fun iv wr => ∃ (j : Nat) (o : Int) (L : Tms), j ≤ len ∧ iv = .int .i64 j ∧ o ≤ (j : Int) ∧ CI 0 o L ∧ Inv1 l j L ∧ CkIn w wr ca 0 o L ∧ Fr [] w wr) (fun iv _ => len - (intOf iv).toNat)
  case atStart => exact ⟨0, 0, [], by omega, rfl, by omega, CI.new, Inv1.nil, hC, hF1⟩
  case round =>
    clear hC hF1
    obtain ⟨j, o, L, hj, rfl, ho, hI, hV, hC, hF⟩ := hrel
    by_cases hjl : j < len
    · obtain ⟨bb, off, ⟨kd, k1, k2, x⟩, rfl, hbb, hx, hxV, hcell⟩ := HL.out.at_ j hjl
      obtain ⟨_, hk1, hk2, _⟩ := hxV
      have HK := Lib.hid (show KyOk (k1, k2) from ⟨hk1, hk2⟩)
      have HC := Lib.hid hcell
      have HKA := Lib.hid (show KAt l j (k1, k2) from ⟨_, hx, rfl⟩)
      have d1 : wr.cell? ⟨bb, off + j * 4 + 1, none⟩ = some (.int .i64 k1) := hcell wr hF 1 _ rfl
      have d2 : wr.cell? ⟨bb, off + j * 4 + 2, none⟩ = some (.int .i64 k2) := hcell wr hF 2 _ rfl
      have hFA := hF.alloc (.cells #[.int .i64 0, .int .i64 0] 29 (0, 0))
      have e1 : (wr.alloc (.cells #[.int .i64 0, .int .i64 0] 29 (0, 0))).cell? ⟨bb, off + j * 4 + 1, none⟩ = some (.int .i64 k1) := hcell _ hFA 1 _ rfl
      have e2 : (wr.alloc (.cells #[.int .i64 0, .int .i64 0] 29 (0, 0))).cell? ⟨bb, off + j * 4 + 2, none⟩ = some (.int .i64 k2) := hcell _ hFA 2 _ rfl
      have hjb : (j : Int) ≤ 100 := by omega
      have HCk := Lib.hid hC
      obtain ⟨m, hCk, hcl, hml⟩ := hC
      have HCm := Lib.hid (And.intro hcl hml)
      have HBD := Lib.hid hCk.ltAll
      have HCK := Lib.hid hCk
      have HI := Lib.hid hI
      have HV := Lib.hid hV
      have HF := Lib.hid hF
      have HO := Lib.hid ho
      clear hcell hx hk1 hk2 hbb hCk hcl hml hI hV ho hF hFA
      go_wp2_with fail
      go_region
      have hF3 := (HF.out.alloc (.cells #[.int .i64 k1, .int .i64 k2] 29 (0, 0))).drew
      have hQ3 := (Blk.new wr #[.int .i64 k1, .int .i64 k2] 29).drew
      have hC3 := HCk.out.fr0 ((Fr.refl [] wr).alloc (.cells #[.int .i64 k1, .int .i64 k2] 29 (0, 0))).drew
      have hK3 := HCK.out.fr0 ((Fr.refl [] wr).alloc (.cells #[.int .i64 k1, .int .i64 k2] 29 (0, 0))).drew
      obtain ⟨W3, hW3⟩ : ∃ W, (wr.alloc (.cells #[.int .i64 k1, .int .i64 k2] 29 (0, 0))).drew = W := ⟨_, rfl⟩
      obtain ⟨q, hq⟩ : ∃ q, wr.heap.size = q := ⟨_, rfl⟩
      have HBD : Hid (∀ y, y ∈ ca :: m.toList → y < q) := Lib.hid fun y hy => by rw [← hq]; exact HBD.out y hy
      rw [hW3] at hF3 hQ3 hC3 hK3 ⊢
      rw [hq] at hQ3 ⊢
      clear hW3 hq HCk HF d1 d2 e1 e2 HCK
      have c0 : W3.cell? ⟨bb, off + j * 4, none⟩ = some (.int .i64 kd) := by have := HC.out W3 hF3 0 _ rfl; simpa using this
      have hS : Hid (∀ W, Fr [] W3 W → W.cell? ⟨bb, off + j * 4 + 3, none⟩ = some (.int .i64 x) ∧ W.cell? ⟨q, 0, none⟩ = some (.int .i64 k1) ∧ W.cell? ⟨q, 1, none⟩ = some (.int .i64 k2)) := Lib.hid fun W h => by
        have hb := h.blk hQ3 (by simp)
        exact ⟨HC.out _ (hF3.trans h) 3 _ rfl, hb.c 0 _ rfl, hb.c 1 _ rfl⟩
      obtain ⟨_, q0, q1⟩ := hS.out W3 (Fr.refl _ _)
      have HSk : Hid (∀ W, Fr [] w W → ∀ S, Fr S W3.drew W → (∀ y, y ∈ S → y < q) → W.cell? ⟨bb, off + j * 4 + 3, none⟩ = some (.int .i64 x) ∧ W.cell? ⟨q, 0, none⟩ = some (.int .i64 k1) ∧ W.cell? ⟨q, 1, none⟩ = some (.int .i64 k2)) := Lib.hid fun W h S h2 h3 => by
        have hb := h2.blk (hQ3.drew) (fun hs => by have := h3 q hs; omega)
        exact ⟨HC.out _ h 3 _ rfl, hb.c 0 _ rfl, hb.c 1 _ rfl⟩
      have HC3 := Lib.hid hC3
      have HK3 := Lib.hid hK3
      have HF3 := Lib.hid hF3
      clear hC3 hF3 hQ3 hK3
      by_cases hk : kd = 2
      · subst hk
        have T1 := cancel_in (k1, k2) HK.out HC3.out HF3.out
        unfold kyC at T1
        simp only at T1
        have T1 := Lib.hid T1
        go_wp2_with fail
        refine T1.out.mono ?_
        rintro e w5 ⟨rfl, hC5, hF5⟩
        have HC5 := Lib.hid hC5
        have HF5 := Lib.hid hF5
        have HI5 := Lib.hid (HI.out.cut_ (k1, k2))
        have HV5 := Lib.hid (HV.out.cut_ (k1, k2))
        clear T1 hC5 hF5 HC3 HF3 q0 q1 c0
        go_wp2_with fail
        go_roundw
        case rel => exact ⟨j + 1, o, _, by omega, by go_num, by have := HO.out; omega, HI5.out, HV5.out, HC5.out, HF5.out⟩
        case measure => (simp [intOf]) <;> omega
      · have hkb : (kd == 2) = false := by simpa using hk
        have hd := (Fr.refl [] W3).drew
        have T1 := set_inF (w0 := w) (B := q) (k1, k2) x HK.out (HK3.out.fr0 hd) HCm.out.1 HCm.out.2 HBD.out HI.out (by have := HO.out; omega) (HF3.out.trans hd)
        unfold kyC at T1
        simp only at T1
        have T1 := Lib.hid T1
        have hG0 := hS.out _ hd
        clear hk hd
        go_wp2_with fail
        go_region_held3 (fun W => W.cell? ⟨bb, off + j * 4 + 3, none⟩ = some (.int .i64 x) ∧ W.cell? ⟨q, 0, none⟩ = some (.int .i64 k1) ∧ W.cell? ⟨q, 1, none⟩ = some (.int .i64 k2))
          (first | exact hG0 | assumption | exact HSk.out _ hF5 _ hSF5 hSB5)
          (first | (go_at_call 11; refine T1.out.mono ?_; rintro e w5 ⟨rfl, hC5, hF5, S5, hSF5, hSB5⟩))
        all_goals
          have HC5 := Lib.hid hC5
          have HF5 := Lib.hid hF5
          have HI5 := Lib.hid (HI.out.set_ (k1, k2) x)
          have HV5 := Lib.hid (HV.out.set_ o (k1, k2) x HKA.out)
          have HO5 := Lib.hid (setO_le o L (k1, k2) x)
          clear T1 hC5 hF5 HC3 HF3 q0 q1 c0 hG0 hS hSF5 hSB5 HSk HK3
          go_wp2_with fail
          go_roundw
          case rel => exact ⟨j + 1, _, _, by omega, by go_num, by have := HO.out; have := HO5.out; omega, HI5.out, HV5.out, HC5.out, HF5.out⟩
          case measure => (simp [intOf]) <;> omega
    · obtain rfl : j = len := by omega
      have hge : ¬ (j : Int) < j := by omega
      have LN := Lib.hid (len_in hC)
      have HC := Lib.hid hC
      have HI := Lib.hid hI
      have HV := Lib.hid hV
      have HO := Lib.hid ho
      have HF := Lib.hid hF
      clear hC hI hV ho hF hjl hj
      go_wp2_with fail
      refine LN.out.mono ?_
      rintro e w2 ⟨rfl, rfl⟩
      have HC : Hid (CkIn w w2 ca 0 o L) := HC
      have HF : Hid (Fr [] w w2) := HF
      clear LN
      go_wp2_with fail
      go_loopw [10] (fun iv wr => ∃ (i : Nat), i ≤ j ∧ iv = .int .i64 i ∧ Fr [] w2 wr) (fun iv _ => j - (intOf iv).toNat)
      case atStart => exact ⟨0, by omega, rfl, Fr.refl _ _⟩
      case round =>
        obtain ⟨i, hi, rfl, hG⟩ := hrel
        by_cases hil : i < j
        · obtain ⟨bb, off, ⟨kd, k1, k2, x⟩, rfl, hbb, hx, hxV, hcell⟩ := HL.out.at_ i hil
          obtain ⟨_, hk1, hk2, _⟩ := hxV
          have HS : Hid (∀ W, Fr [] w2 W → W.cell? ⟨bb, off + i * 4 + 1, none⟩ = some (.int .i64 k1) ∧ W.cell? ⟨bb, off + i * 4 + 2, none⟩ = some (.int .i64 k2)) := Lib.hid fun W h => ⟨hcell _ (HF.out.trans h) 1 _ rfl, hcell _ (HF.out.trans h) 2 _ rfl⟩
          have hd := hG.drew
          have hG0 := HS.out _ hd
          have hib : (i : Int) ≤ 100 := by omega
          have HT := HC.out.fr0 hd
          have T1 := when_in (k1, k2) ⟨hk1, hk2⟩ HT
          have HR : Hid (∀ W, Fr [] wr.drew W → Fr [] w2 W) := Lib.hid fun W h => hd.trans h
          have HN := Lib.hid fun W (h : Fr [] wr.drew W) => now_in (HT.fr0 h)
          obtain ⟨r, hr⟩ : ∃ r, look L (k1, k2) = r := ⟨_, rfl⟩
          rw [hr] at T1
          have HTi := Lib.hid fun t (e : r = some t) => (HV.out.t _ (mem_of_look (hr.trans e))).1
          have HS1 := Lib.hid fun W h => HS.out W (HR.out W h)
          unfold kyC at T1
          simp only at T1
          cases r with
          | none =>
            have e1 : (tmD none).1 = 0 := rfl
            have e2 : (none : Option Tm).isSome = false := rfl
            rw [e1, e2] at T1
            have T1 := Lib.hid T1
            clear hr hcell hx hk1 hk2 hbb hG HT hd e1 e2
            go_wp2_with fail
            go_region_held3 (fun W => W.cell? ⟨bb, off + i * 4 + 1, none⟩ = some (.int .i64 k1) ∧ W.cell? ⟨bb, off + i * 4 + 2, none⟩ = some (.int .i64 k2))
              (first | exact hG0 | assumption | exact HS1.out _ hF5)
              (first | (go_at_call 15; refine T1.out.mono ?_; rintro e w5 ⟨rfl, hF5⟩))
            all_goals
              have HF5 := Lib.hid (HR.out _ hF5)
              clear T1 hF5 hG0
              go_wp2_with fail
              go_roundw
              case rel => exact ⟨i + 1, by omega, by go_num, HF5.out⟩
              case measure => (simp [intOf]) <;> omega
          | some t =>
            obtain ⟨t1, t2⟩ := t
            have e1 : (tmD (some ((t1, t2) : Tm))).1 = t1 := rfl
            have e2 : (some ((t1, t2) : Tm)).isSome = true := rfl
            rw [e1, e2] at T1
            have T1 := Lib.hid T1
            have ht1 := HTi.out _ rfl
            simp only at ht1
            have ht0 : ¬ t1 ≤ 0 := by omega
            clear hr hcell hx hk1 hk2 hbb hG HT hd e1 e2
            go_wp2_with fail
            go_region_held3 (fun W => W.cell? ⟨bb, off + i * 4 + 1, none⟩ = some (.int .i64 k1) ∧ W.cell? ⟨bb, off + i * 4 + 2, none⟩ = some (.int .i64 k2))
              (first | exact hG0 | assumption | exact HS1.out _ hF5)
              (first | (go_at_call 15; refine T1.out.mono ?_; rintro e w5 ⟨rfl, hF5⟩))
            all_goals
              have HF5 := Lib.hid (HR.out _ hF5)
              have NW := Lib.hid (HN.out _ hF5)
              clear T1 hF5 hG0
              go_wp2_with fail
              refine NW.out.mono ?_
              rintro e w6 ⟨rfl, rfl⟩
              go_wp2_with fail
              go_roundw
              case rel => exact ⟨i + 1, by omega, by go_num, HF5.out⟩
              case measure => (simp [intOf]) <;> omega
        · obtain rfl : i = j := by omega
          have hge : ¬ (i : Int) < i := by omega
          have N3 := Lib.hid (two_new (HC.out.fr0 hG) (HF.out.trans hG))
          clear hi hil hG HC HF
          go_wp2_with fail
          refine N3.out.mono ?_
          rintro e w3 ⟨cw, rfl, hT, hF⟩
          clear N3
          go_wp2_with fail
          go_loopw [14] (fun iv wr => ∃ (j : Nat) (o2 : Int) (L2 : Tms), j ≤ i ∧ iv = .int .i64 j ∧ o2 ≤ (j : Int) ∧ CI 0 o2 L2 ∧ Was l j L L2 ∧ L2.length ≤ j ∧ TwoE w wr ca cw 0 0 o o2 L L2 ∧ Fr [] w wr) (fun iv _ => i - (intOf iv).toNat)
          case atStart => exact ⟨0, 0, [], by omega, rfl, by omega, CI.new, Was.nil, by simp, hT, hF⟩
          case round =>
            clear hT hF
            obtain ⟨j, o2, L2, hj, rfl, ho2, hI2, hW, hlen2, hT, hF⟩ := hrel
            by_cases hjl : j < i
            · obtain ⟨bb, off, ⟨kd, k1, k2, x⟩, rfl, hbb, hx, hxV, hcell⟩ := HL.out.at_ j hjl
              obtain ⟨_, hk1, hk2, _⟩ := hxV
              have HK := Lib.hid (show KyOk (k1, k2) from ⟨hk1, hk2⟩)
              have HKA := Lib.hid (show KAt l j (k1, k2) from ⟨_, hx, rfl⟩)
              have d1 : wr.cell? ⟨bb, off + j * 4 + 1, none⟩ = some (.int .i64 k1) := hcell wr hF 1 _ rfl
              have d2 : wr.cell? ⟨bb, off + j * 4 + 2, none⟩ = some (.int .i64 k2) := hcell wr hF 2 _ rfl
              have hFA := hF.alloc (.cells #[.int .i64 0, .int .i64 0] 29 (0, 0))
              have e1 : (wr.alloc (.cells #[.int .i64 0, .int .i64 0] 29 (0, 0))).cell? ⟨bb, off + j * 4 + 1, none⟩ = some (.int .i64 k1) := hcell _ hFA 1 _ rfl
              have e2 : (wr.alloc (.cells #[.int .i64 0, .int .i64 0] 29 (0, 0))).cell? ⟨bb, off + j * 4 + 2, none⟩ = some (.int .i64 k2) := hcell _ hFA 2 _ rfl
              have hjb : (j : Int) ≤ 100 := by omega
              have HT := Lib.hid hT
              have HI2 := Lib.hid hI2
              have HW := Lib.hid hW
              have HO2 := Lib.hid (And.intro ho2 hlen2)
              have HF := Lib.hid hF
              clear hcell hx hk1 hk2 hbb hT hI2 hW ho2 hlen2 hF hFA
              go_wp2_with fail
              go_region
              have hF3 := (HF.out.alloc (.cells #[.int .i64 k1, .int .i64 k2] 29 (0, 0))).drew
              have hQ3 := (Blk.new wr #[.int .i64 k1, .int .i64 k2] 29).drew
              have hT3 := HT.out.fr0 ((Fr.refl [] wr).alloc (.cells #[.int .i64 k1, .int .i64 k2] 29 (0, 0))).drew
              obtain ⟨W3, hW3⟩ : ∃ W, (wr.alloc (.cells #[.int .i64 k1, .int .i64 k2] 29 (0, 0))).drew = W := ⟨_, rfl⟩
              obtain ⟨q, hq⟩ : ∃ q, wr.heap.size = q := ⟨_, rfl⟩
              rw [hW3] at hF3 hQ3 hT3 ⊢
              rw [hq] at hQ3 ⊢
              clear hW3 hq HT HF d1 d2 e1 e2
              have q0 : W3.cell? ⟨q, 0, none⟩ = some (.int .i64 k1) := hQ3.c 0 _ rfl
              have q1 : W3.cell? ⟨q, 1, none⟩ = some (.int .i64 k2) := hQ3.c 1 _ rfl
              have HS : Hid (∀ W, Fr [] W3 W → W.cell? ⟨q, 0, none⟩ = some (.int .i64 k1) ∧ W.cell? ⟨q, 1, none⟩ = some (.int .i64 k2)) := Lib.hid fun W h => by
                have hb := h.blk hQ3 (by simp)
                exact ⟨hb.c 0 _ rfl, hb.c 1 _ rfl⟩
              have T1 := two_when (k1, k2) HK.out hT3
              obtain ⟨r, hr⟩ : ∃ r, look L (k1, k2) = r := ⟨_, rfl⟩
              rw [hr] at T1
              unfold kyC at T1
              simp only at T1
              have HT3 := Lib.hid hT3
              have HF3 := Lib.hid hF3
              have HR := Lib.hid hr
              cases r with
              | none =>
                have f1 : (tmD none).1 = 0 := rfl
                have f2 : (none : Option Tm).isSome = false := rfl
                rw [f1, f2] at T1
                have T1 := Lib.hid T1
                clear hr hT3 hF3 hQ3 f1 f2
                go_wp2_with fail
                refine T1.out.mono ?_
                rintro e w5 ⟨rfl, hG5⟩
                have HT5 := Lib.hid (HT3.out.fr0 hG5)
                have HF5 := Lib.hid (HF3.out.trans hG5)
                clear T1 hG5 q0 q1
                go_wp2_with fail
                go_roundw
                case rel => exact ⟨j + 1, o2, L2, by omega, by go_num, by have := HO2.out.1; omega, HI2.out, HW.out.none_ HKA.out HR.out, by have := HO2.out.2; omega, HT5.out, HF5.out⟩
                case measure => (simp [intOf]) <;> omega
              | some t =>
                obtain ⟨t1, t2⟩ := t
                have f1 : (tmD (some ((t1, t2) : Tm))).1 = t1 := rfl
                have f2 : (some ((t1, t2) : Tm)).isSome = true := rfl
                rw [f1, f2] at T1
                have T1 := Lib.hid T1
                have ht1 := HV.out.t _ (mem_of_look hr)
                simp only at ht1
                have g1 : setE L2 (k1, k2) t1 = 0 := by unfold setE; rw [if_neg (by omega), if_neg (by have := HO2.out.2; omega)]
                have g2 : setO o2 L2 (k1, k2) t1 = o2 + 1 := by unfold setO; rw [if_pos g1]
                have g3 : setL 0 o2 L2 (k1, k2) t1 = put L2 (k1, k2) (t1, o2 + 1) := by unfold setL; rw [if_pos g1, Int.zero_add]
                have HI5 := HI2.out.set_ (k1, k2) t1
                have S1 := Lib.hid fun W (h : Fr [] W3 W) => two_set (k1, k2) t1 HK.out (HT3.out.fr0 h).symm HI2.out (by have := HO2.out.1; omega) (HF3.out.trans h)
                rw [g1, g2, g3] at S1
                rw [g2, g3] at HI5
                unfold kyC at S1
                simp only at S1
                have HI5 := Lib.hid HI5
                clear hr hT3 hF3 hQ3 f1 f2 g1 g2 g3 ht1
                go_wp2_with fail
                refine T1.out.mono ?_
                rintro e w5 ⟨rfl, hG5⟩
                obtain ⟨r0, r1⟩ := HS.out _ hG5
                have S2 := Lib.hid (S1.out _ hG5)
                clear T1 hG5 q0 q1 S1
                go_wp2_with fail
                refine S2.out.mono ?_
                rintro e w6 ⟨rfl, hT6, hF6⟩
                have HT6 := Lib.hid hT6.symm
                have HF6 := Lib.hid hF6
                have hpl : (put L2 (k1, k2) ((t1, o2 + 1) : Tm)).length ≤ j + 1 := by
                  rw [put_length]
                  have := HO2.out.2
                  split <;> omega
                clear S2 hT6 hF6 r0 r1
                go_wp2_with fail
                go_roundw
                case rel => exact ⟨j + 1, o2 + 1, _, by omega, by go_num, by have := HO2.out.1; omega, HI5.out, HW.out.some_ HKA.out HR.out, hpl, HT6.out, HF6.out⟩
                case measure => (simp [intOf]) <;> omega
            · obtain rfl : j = i := by omega
              have hge : ¬ (j : Int) < j := by omega
              obtain ⟨i0, hi, hz0, hz1, hz2⟩ := info_parts infoInt
              have lt1 : later 0 n = n := by unfold later; omega
              have HKO : Hid (∀ p, p ∈ L → KyOk p.1) := Lib.hid (by obtain ⟨ma, mb, h⟩ := hT; exact h.a.kok)
              have TA := Lib.hid (two_tick n hT.bound HI.out n0 n1 hF)
              rw [lt1] at TA
              have HW := Lib.hid hW
              clear hT hF lt1 hW ho2 hlen2 hI2 hj hjl
              go_wp2_with fail
              refine TA.out.mono ?_
              rintro e w4 ⟨ks, A, cp, rfl, hp, hs, ⟨ma, mb, hT4, _⟩, hF4, _, ho4⟩
              obtain ⟨hc1, hc2⟩ := own_caps ho4
              unfold maxLen at hc2
              have hkl : ks.length ≤ 300 := by have h1 := hp.length_eq; have h2 := dks_len n L; have h3 := HI.out.len; omega
              have HO4 := Lib.hid fun i k hk => own_at ho4 i k hk
              have HDU := Lib.hid fun k hk => due_at HI.out HV.out HW.out hp (k := k) hk
              have HUP := Lib.hid hs
              have HT4 := Lib.hid hT4
              have HF4 := Lib.hid hF4
              have HSum := Lib.hid (order_len hp)
              have hN0 := World.ownsRow_nil w4 w4.heap.size 3 1
              clear TA hT4 hF4 ho4 hp hs HW
              go_wp2_with fail
              go_loopw [8, 19] (fun v8 iv wr => ∃ p : Nat, p ≤ ks.length ∧ iv = .int .i64 p ∧ wr.ownsRow w4.heap.size 3 1 v8 p (tmRow L ks p) ∧ Fr [] w4 wr) (fun _ iv _ => ks.length - (intOf iv).toNat)
              case atStart => exact ⟨0, by omega, rfl, hN0, Fr.refl _ _⟩
              case round =>
                clear hN0
                obtain ⟨p, hp, rfl, hown, hG⟩ := hrel
                by_cases hpl : p < ks.length
                · obtain ⟨⟨k1, k2⟩, hk⟩ : ∃ k, ks[p]? = some k := ⟨_, List.getElem?_eq_getElem hpl⟩
                  obtain ⟨⟨t1, t2⟩, o3, hlk, htn, ht1, ht2, hl2, hund⟩ := HDU.out (k1, k2) (List.mem_of_getElem? hk)
                  simp only at htn ht1 ht2 hl2
                  have htn : ¬ n < t1 := by omega
                  have HKK := Lib.hid (HKO.out _ (mem_of_look hlk))
                  obtain ⟨g4, rfl, hc4⟩ := HO4.out p _ hk
                  have HC4 := Lib.hid hc4
                  obtain ⟨d1, d2⟩ := hc4 _ hG
                  simp only at d1 d2
                  have T1 := two_when (k1, k2) HKK.out (show TwoE w wr cw ca 0 n _ _ _ _ from ⟨_, _, (HT4.out.fr0 hG).symm⟩)
                  rw [hl2] at T1
                  have f1 : (tmD (some ((t1, o3) : Tm))).1 = t1 := rfl
                  have f2 : (some ((t1, o3) : Tm)).isSome = true := rfl
                  rw [f1, f2] at T1
                  have T2 := fun W (h : Fr [] w4 W) => when_any (k1, k2) HKK.out (HT4.out.fr0 h).a
                  rw [hund] at T2
                  have f3 : (tmD none).1 = 0 := rfl
                  have f4 : (none : Option Tm).isSome = false := rfl
                  rw [f3, f4] at T2
                  unfold kyC at T1 T2
                  simp only at T1 T2
                  have T1 := Lib.hid T1
                  have T2 := Lib.hid T2
                  have HSn := Lib.hid (tmRow_snoc hk hlk)
                  have hpb : (p : Int) ≤ 300 := by omega
                  obtain ⟨A8, c8, rfl⟩ := own_slice hown
                  obtain ⟨hc81, hc82⟩ := own_caps hown
                  unfold maxLen at hc82
                  have HO := Lib.hid hown
                  have HG := Lib.hid hG
                  by_cases hz : 0 < p
                  · obtain ⟨p', rfl⟩ : ∃ p', p = p' + 1 := ⟨p - 1, by omega⟩
                    obtain ⟨k', hk'⟩ : ∃ k, ks[p']? = some k := ⟨_, List.getElem?_eq_getElem (by omega)⟩
                    obtain ⟨⟨s1, s2⟩, _, hlk', _⟩ := HDU.out k' (List.mem_of_getElem? hk')
                    have hup := times_up HUP.out hk' hk hlk' hlk
                    simp only at hup
                    have hup : ¬ t1 < s1 := by omega
                    obtain ⟨g8, c8', hv8, hg8, hgl8⟩ := hown.form (by omega)
                    injection hv8 with e1 _ e2
                    subst e1 e2
                    have HC8 : Hid (∀ W, Fr [] wr W → W.cell? ⟨g8, p', none⟩ = some (.int .i64 s1)) := Lib.hid fun W h => by
                      rw [World.cell?_of_block (h.block g8 hgl8 (by simp)), hown.cellAt p' (by omega)]
                      exact tmRow_at (by omega) hk' hlk'
                    have hpp : ((p' + 1 : Nat) : Int) - 1 = p' := by omega
                    have hz' : (0 : Int) < ((p' + 1 : Nat) : Int) := by omega
                    clear hlk hl2 hund hc4 hown hG hk f1 f2 f3 f4 hk' hlk'
                    go_wp2_with fail
                    refine T1.out.mono ?_
                    rintro e w5 ⟨rfl, hG5⟩
                    have hown5 := own_fr HO.out hG5 (by simp)
                    have HG5 := Lib.hid (HG.out.trans hG5)
                    have hs5 := Lib.hid hG5.size
                    have x8 := HC8.out _ hG5
                    clear hG5 d1 d2 T1 HC8
                    go_wp2_with (at_builtin; refine wpList_append_own _ rfl _ _ 39 rfl w4.heap.size 3 i0 (.int .i64 0) 1 8 Try.underlying39 hi hz0 hz1 hz2 rfl (by decide) _ (p' + 1) _ rfl (hown5.alloc _) ⟨w5.heap.size, 0, none⟩ 1 1 [.int .i64 t1] rfl rfl ?d1 ?d2 ?d3 ?d4 ?d5 ?_)
                    case d1 => exact new_cells w5 [.int .i64 t1] 3
                    case d2 => simp [Value.oneCell']
                    case d3 => unfold maxLen; omega
                    case d4 => omega
                    case d5 => have := HG5.out.size; simp; omega
                    intro v9 w9 hown9 hgr9 _
                    have hF9 := (HG5.out.alloc (.cells #[.int .i64 t1] 3 (0, 0))).grown hgr9 (fun k hk => own_new hown5 k hk)
                    rw [HSn.out] at hown9
                    obtain ⟨d1, d2⟩ := HC4.out _ hF9
                    try simp only at d1 d2
                    have T3 := Lib.hid (T2.out _ hF9)
                    have HO9 := Lib.hid hown9
                    have HF9 := Lib.hid hF9
                    clear hown9 hgr9 hF9 hown5 T2
                    go_wp2_with fail
                    refine T3.out.mono ?_
                    rintro e w10 ⟨rfl, hG10⟩
                    have HO10 := Lib.hid (own_fr HO9.out hG10 (by simp))
                    have HF10 := Lib.hid (HF9.out.trans hG10)
                    clear T3 hG10 d1 d2 HO9 HF9
                    go_wp2_with fail
                    go_roundw
                    case rel => exact ⟨p' + 1 + 1, by omega, by go_num, HO10.out, HF10.out⟩
                    case measure => (simp [intOf]) <;> omega
                  · have hz' : ¬ (0 : Int) < (p : Int) := by omega
                    clear hlk hl2 hund hc4 hown hG hk f1 f2 f3 f4
                    go_wp2_with fail
                    refine T1.out.mono ?_
                    rintro e w5 ⟨rfl, hG5⟩
                    have hown5 := own_fr HO.out hG5 (by simp)
                    have HG5 := Lib.hid (HG.out.trans hG5)
                    have hs5 := Lib.hid hG5.size
                    clear hG5 d1 d2 T1
                    go_wp2_with (at_builtin; refine wpList_append_own _ rfl _ _ 39 rfl w4.heap.size 3 i0 (.int .i64 0) 1 8 Try.underlying39 hi hz0 hz1 hz2 rfl (by decide) _ p _ rfl (hown5.alloc _) ⟨w5.heap.size, 0, none⟩ 1 1 [.int .i64 t1] rfl rfl ?d1 ?d2 ?d3 ?d4 ?d5 ?_)
                    case d1 => exact new_cells w5 [.int .i64 t1] 3
                    case d2 => simp [Value.oneCell']
                    case d3 => unfold maxLen; omega
                    case d4 => omega
                    case d5 => have := HG5.out.size; simp; omega
                    intro v9 w9 hown9 hgr9 _
                    have hF9 := (HG5.out.alloc (.cells #[.int .i64 t1] 3 (0, 0))).grown hgr9 (fun k hk => own_new hown5 k hk)
                    rw [HSn.out] at hown9
                    obtain ⟨d1, d2⟩ := HC4.out _ hF9
                    try simp only at d1 d2
                    have T3 := Lib.hid (T2.out _ hF9)
                    have HO9 := Lib.hid hown9
                    have HF9 := Lib.hid hF9
                    clear hown9 hgr9 hF9 hown5 T2
                    go_wp2_with fail
                    refine T3.out.mono ?_
                    rintro e w10 ⟨rfl, hG10⟩
                    have HO10 := Lib.hid (own_fr HO9.out hG10 (by simp))
                    have HF10 := Lib.hid (HF9.out.trans hG10)
                    clear T3 hG10 d1 d2 HO9 HF9
                    go_wp2_with fail
                    go_roundw
                    case rel => exact ⟨p + 1, by omega, by go_num, HO10.out, HF10.out⟩
                    case measure => (simp [intOf]) <;> omega
                · obtain rfl : p = ks.length := by omega
                  have hge : ¬ (ks.length : Int) < ks.length := by omega
                  have HF5 := Lib.hid (HF4.out.trans hG)
                  have LN := Lib.hid fun W (h : Fr [] wr W) => len_any (HT4.out.fr0 (hG.trans h)).a
                  have NW := Lib.hid fun W (h : Fr [] wr W) => now_any (HT4.out.fr0 (hG.trans h)).a
                  obtain ⟨U, hU⟩ : ∃ U : Int, ((undue n L).length : Int) = U := ⟨_, rfl⟩
                  rw [hU] at LN
                  have hsum : U + (ks.length : Int) = L.length := by have := HSum.out; omega
                  have hLl := HI.out.len
                  have hwr : wrap64 (U + (ks.length : Int)) = L.length := by rw [hsum]; exact wrap_small _ hLl
                  have hwi : IntKind.i64.wrap (U + (ks.length : Int)) = L.length := by rw [hsum]; exact wrapi_small _ hLl
                  have hwL : wrap64 ((L.length : Nat) : Int) = (L.length : Nat) := wrap_small _ hLl
                  have hwM : IntKind.i64.wrap ((L.length : Nat) : Int) = (L.length : Nat) := wrapi_small _ hLl
                  clear hown hG hp hpl hU hLl
                  go_wp2_with fail
                  refine (alive3 _).mono ?_
                  rintro e w5 ⟨rfl, hG5⟩
                  have HF6 := Lib.hid (HF5.out.trans hG5)
                  have LN5 := Lib.hid (LN.out _ hG5)
                  have NW5 := Lib.hid (NW.out _ hG5)
                  clear hG5 LN NW
                  go_wp2_with fail
                  refine LN5.out.mono ?_
                  rintro e w6 ⟨rfl, rfl⟩
                  go_wp2_with fail
                  refine NW5.out.mono ?_
                  rintro e w6 ⟨rfl, rfl⟩
                  go_wp2_with fail
                  go_ret
                  exact ⟨rfl, HF6.out.below (Nat.le_refl _) (by simp)⟩
set_option maxRecDepth 100000 in
set_option maxHeartbeats 4000000 in
theorem tapeOrder_walk (w : World) (a : Option Addr) (len cap : Nat) (l : List OpR) (hl : IsOps w a len cap l) (n : Int) (n0 : -9223372036854775808 ≤ n) (n1 : n ≤ 9223372036854775807) :
    Calls Try.prog 8 #[.slice a len cap, .int .i64 n] w fun e w' => e = .returned (.bool true) ∧ Below w.heap.size w w' := by
  by_cases h : (len : Int) ≤ 100 ∧ 1 ≤ n ∧ n ≤ 1000000
  · exact order_small w a len cap l hl n (by omega) h.2.1 h.2.2
  · have hX : (100 : Int) < len ∨ ¬ (100 : Int) < len ∧ n < 1 ∨ ¬ (100 : Int) < len ∧ ¬ n < 1 ∧ 1000000 < n := by omega
    have hmax := hl.2.2.1
    have hcap := hl.2.1
    unfold maxLen at hmax
    clear h hl
    rcases hX with h1 | ⟨h1, h2⟩ | ⟨h1, h2, h3⟩
    all_goals
      go_enter Try.func8, Try.ntmps8
      go_wp2_with fail
      refine (alive3 _).mono ?_
      rintro e w1 ⟨rfl, hG⟩
      go_wp2_with fail
      go_ret
      exact ⟨rfl, hG.below (Nat.le_refl _) (by simp)⟩
end Go.Proofs.Ytgmlkdchnpacaaa
