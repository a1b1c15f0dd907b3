/- TapePieces, walked. -/
import Derived.Test.YtgmlkdchnpacaaaClock8
import Derived.Test.YtgmlkdchnpacaaaLawT1
import Derived.Deep.RegionWith
import Derived.Deep.DeepCutAuto
import Derived.Deep.CutBlock
import Derived.Laws.Cover3
namespace Go.Proofs.Ytgmlkdchnpacaaa
open Go.RowKit Go.Maps
set_option linter.unusedVariables false
theorem one_ky (ks : List Ky) : ∀ u ∈ flatKy ks, u.oneCell' = true := fun u hu => by
  unfold flatKy at hu
  obtain ⟨k, _, hk⟩ := List.mem_flatMap.1 hu
  simp [kyL] at hk
  rcases hk with rfl | rfl <;> rfl
theorem flatKy_app (a b : List Ky) : flatKy a ++ flatKy b = flatKy (a ++ b) := by unfold flatKy; rw [List.flatMap_append]
theorem grown_fr {w w' : World} {row : Option Nat} (h : w.grownBy w' row) : Fr row.toList w w' :=
  ⟨h.os, h.tape, h.output, h.size, fun i hi hn => h.block i hi (fun e => hn (by rw [← e]; simp))⟩
section
variable {w0 w w' : World} {ca cb : Nat} {ma mb : Option Nat} {na nb oa ob : Int} {la lb : Tms}
theorem Two.frB {B : Nat} {S : List Nat} (h : Two w0 w ca cb ma mb na nb oa ob la lb) (hF : Fr S w w') (hS : ∀ y, y ∈ S → B ≤ y) (hB : ∀ x, x ∈ ca :: ma.toList ∨ x ∈ cb :: mb.toList → x < B) : Two w0 w' ca cb ma mb na nb oa ob la lb :=
  ⟨h.a.frAll hF (fun x hx hs => by have := hS x hs; have := hB x (Or.inl hx); omega), h.b.frAll hF (fun x hx hs => by have := hS x hs; have := hB x (Or.inr hx); omega), h.ne, h.lo⟩
end
set_option maxRecDepth 100000 in
set_option maxHeartbeats 20000000 in
theorem pieces_small (w : World) (a : Option Addr) (len cap : Nat) (l : List OpR) (hl : IsOps w a len cap l) (n m : Int) (l60 : len ≤ 60) (n0 : 1 ≤ n) (n1 : n ≤ 100000) (m0 : 1 ≤ m) (m1 : m ≤ 100000) :
    Calls Try.prog 3 #[.slice a len cap, .int .i64 n, .int .i64 m] w fun e w' => e = .returned (.bool true) ∧ Below w.heap.size w w' := by
  have HL := Lib.hid hl
  have hmax := hl.2.2.1
  have hcap := hl.2.1
  unfold maxLen at hmax
  have h1 : ¬ (60 : Int) < len := by omega
  have h2 : ¬ n < 1 := by omega
  have h3 : ¬ m < 1 := by omega
  have h4 : ¬ 100000 < n := by omega
  have h5 : ¬ 100000 < m := by omega
  clear hl
  go_enter Try.func3, Try.ntmps3
  go_wp2_with fail
  refine (new_in w).mono ?_
  rintro e w1 ⟨ca, rfl, hC, hF1⟩
  have N2 := Lib.hid (two_new hC hF1)
  clear hC hF1
  go_wp2_with fail
  refine N2.out.mono ?_
  rintro e w2 ⟨cb, rfl, hT2, hF2⟩
  clear N2
  go_wp2_with fail
  go_loopw [9] (fun iv wr => ∃ (j : Nat) (o : Int) (L : Tms), j ≤ len ∧ iv = .int .i64 j ∧ o ≤ (j : Int) ∧ CI 0 o L ∧ TwoE w wr ca cb 0 0 o o L L ∧ Fr [] w wr) (fun iv _ => len - (intOf iv).toNat)
  case atStart => exact ⟨0, 0, [], by omega, rfl, by omega, CI.new, hT2, hF2⟩
  case round =>
    clear hT2 hF2
    obtain ⟨j, o, L, hj, rfl, ho, hI, hT, hF⟩ := hrel
    by_cases hjl : j < len
    · obtain ⟨bb, off, ⟨kd, k1, k2, x⟩, rfl, hbb, hx, hxV, hcell⟩ := HL.out.at_ j hjl
      obtain ⟨_, hk1, hk2, _⟩ := hxV
      have HK := Lib.hid (show KyOk (k1, k2) from ⟨hk1, hk2⟩)
      have HC := Lib.hid hcell
      have d1 : wr.cell? ⟨bb, off + j * 4 + 1, none⟩ = some (.int .i64 k1) := hcell wr hF 1 _ rfl
      have d2 : wr.cell? ⟨bb, off + j * 4 + 2, none⟩ = some (.int .i64 k2) := hcell wr hF 2 _ rfl
      have hFA := hF.alloc (.cells #[.int .i64 0, .int .i64 0] 29 (0, 0))
      have e1 : (wr.alloc (.cells #[.int .i64 0, .int .i64 0] 29 (0, 0))).cell? ⟨bb, off + j * 4 + 1, none⟩ = some (.int .i64 k1) := hcell _ hFA 1 _ rfl
      have e2 : (wr.alloc (.cells #[.int .i64 0, .int .i64 0] 29 (0, 0))).cell? ⟨bb, off + j * 4 + 2, none⟩ = some (.int .i64 k2) := hcell _ hFA 2 _ rfl
      have hjb : (j : Int) ≤ 60 := by omega
      obtain ⟨ma, mb, hT, hbd⟩ := hT.bound
      have HT := Lib.hid hT
      have HI := Lib.hid hI
      have HBD := Lib.hid hbd
      have HF := Lib.hid hF
      have HO := Lib.hid ho
      clear hcell hx hk1 hk2 hbb hT hI hbd ho hF hFA
      go_wp2_with fail
      go_region
      have hF3 := (HF.out.alloc (.cells #[.int .i64 k1, .int .i64 k2] 29 (0, 0))).drew
      have hQ3 := (Blk.new wr #[.int .i64 k1, .int .i64 k2] 29).drew
      have hT3 := HT.out.fr0 ((Fr.refl [] wr).alloc (.cells #[.int .i64 k1, .int .i64 k2] 29 (0, 0))).drew
      obtain ⟨W3, hW3⟩ : ∃ W, (wr.alloc (.cells #[.int .i64 k1, .int .i64 k2] 29 (0, 0))).drew = W := ⟨_, rfl⟩
      obtain ⟨q, hq⟩ : ∃ q, wr.heap.size = q := ⟨_, rfl⟩
      have HBD : Hid (∀ y, y ∈ ca :: ma.toList ∨ y ∈ cb :: mb.toList → y < q) := Lib.hid fun y hy => by rw [← hq]; exact HBD.out y hy
      rw [hW3] at hF3 hQ3 hT3 ⊢
      rw [hq] at hQ3 ⊢
      clear hW3 hq HT HF d1 d2 e1 e2
      have hd := (Fr.refl [] W3).drew
      have HF3 := Lib.hid (hF3.trans hd)
      have HQ3 := Lib.hid (hd.blk hQ3 (by simp))
      have HT3 := Lib.hid (hT3.fr0 hd)
      clear hd hF3 hQ3 hT3
      have hT1 := set_any (k1, k2) x HK.out HT3.out.a HI.out.n0 HI.out.n1 HI.out.o0 (by have := HO.out; omega) HI.out.len
      have hT2 := fun W (h : Fr (ca :: ma.toList) W3.drew W) => set_any (k1, k2) x HK.out (HT3.out.b.frAll h (fun x hx hy => HT3.out.ne x hy hx)) HI.out.n0 HI.out.n1 HI.out.o0 (by have := HO.out; omega) HI.out.len
      unfold kyC at hT1 hT2
      simp only at hT1 hT2
      have T1 := Lib.hid hT1
      have T2 := Lib.hid hT2
      clear hT1 hT2
      have HX1 : Hid (∀ W, Fr (ca :: ma.toList) W3.drew W → Fr [] w W ∧ Blk W q #[.int .i64 k1, .int .i64 k2] 29) := Lib.hid fun W h => ⟨HT3.out.sub_ HF3.out h, h.blk HQ3.out (fun hs => by have := HBD.out q (Or.inl hs); omega)⟩
      have HX2 : Hid (∀ V W, Fr (ca :: ma.toList) W3.drew V → Fr (cb :: mb.toList) V W → Fr [] w W ∧ Blk W q #[.int .i64 k1, .int .i64 k2] 29) := Lib.hid fun V W h k => ⟨(HX1.out _ h).1.sub k (fun y hy => Or.inr (HT3.out.lo y (Or.inr hy))), k.blk (HX1.out _ h).2 (fun hs => by have := HBD.out q (Or.inr hs); omega)⟩
      have HS0 : Hid (∀ W, (Fr [] w W ∧ Blk W q #[.int .i64 k1, .int .i64 k2] 29) → W.cell? ⟨bb, off + j * 4 + 3, none⟩ = some (.int .i64 x) ∧ W.cell? ⟨q, 0, none⟩ = some (.int .i64 k1) ∧ W.cell? ⟨q, 1, none⟩ = some (.int .i64 k2)) := Lib.hid fun W h => ⟨HC.out _ h.1 3 _ rfl, h.2.c 0 _ rfl, h.2.c 1 _ rfl⟩
      have HS1 := Lib.hid fun W h => HS0.out W (HX1.out W h)
      have HS2 := Lib.hid fun V W h k => HS0.out W (HX2.out V W h k)
      have hG0 := HS0.out _ ⟨HF3.out, HQ3.out⟩
      go_wp2_with fail
      go_region_held3 (fun W => W.cell? ⟨bb, off + j * 4 + 3, none⟩ = some (.int .i64 x) ∧ W.cell? ⟨q, 0, none⟩ = some (.int .i64 k1) ∧ W.cell? ⟨q, 1, none⟩ = some (.int .i64 k2))
        (first | exact hG0 | assumption | exact HS1.out _ hF5 | exact HS2.out _ _ hF5 hF6)
        (first
          | (go_at_call 11; refine (T2.out _ hF5).mono ?_; rintro e w6 ⟨rfl, mb', hC6, hF6, hm6⟩)
          | (go_at_call 11; refine T1.out.mono ?_; rintro e w5 ⟨rfl, ma', hC5, hF5, hm5⟩))
      all_goals
        have hT5 := HT3.out.stepA HF3.out hC5 hF5 hm5
        have hT6 := (hT5.symm.stepA (HX1.out _ hF5).1 hC6 hF6 hm6).symm
        have HT6 : Hid (TwoE w w6 ca cb 0 0 (setO o L (k1, k2) x) (setO o L (k1, k2) x) (setL 0 o L (k1, k2) x) (setL 0 o L (k1, k2) x)) := Lib.hid ⟨_, _, hT6⟩
        have HF6 := Lib.hid (HX2.out _ _ hF5 hF6).1
        have HI6 := Lib.hid (HI.out.set_ (k1, k2) x)
        have HO6 := Lib.hid (setO_le o L (k1, k2) x)
        clear hT5 hT6 hC5 hC6 hF5 hF6 hm5 hm6 HS0 HS1 HS2 HX1 HX2 T1 T2 hG0 HT3 HQ3 HF3
        go_wp2_with fail
        go_roundw
        case rel => exact ⟨j + 1, _, _, by omega, by go_num, by have := HO6.out; have := HO.out; omega, HI6.out, HT6.out, HF6.out⟩
        case measure => (simp [intOf]) <;> omega
    · obtain rfl : j = len := by omega
      have hge : ¬ (j : Int) < j := by omega
      obtain ⟨i0, hi, hz0, hz1, hz2⟩ := info_parts infoKey
      obtain ⟨B, hB⟩ : ∃ B, wr.heap.size = B := ⟨_, rfl⟩
      have HBw : Hid (w.heap.size ≤ B) := Lib.hid (by rw [← hB]; exact hF.size)
      have hTb := hT.bound
      rw [hB] at hTb
      have lt1 : later 0 n = n := by unfold later; omega
      have lt2 : later n m = n + m := by unfold later; omega
      have lt3 : later 0 (n + m) = n + m := by unfold later; omega
      have hI2 : CI n o (undue n L) := by have := (hI.later_ n n0).filter_ (fun p => decide (¬ p.2.1 ≤ n)); rw [lt1] at this; exact this
      have TA := Lib.hid (two_tick (B := B) n hTb hI n0 (by omega) hF)
      rw [lt1] at TA
      have HI := Lib.hid hI
      have HI2 := Lib.hid hI2
      have HLt := Lib.hid (And.intro lt2 lt3)
      have HB := Lib.hid hB
      clear hT hF hI hI2 hTb lt1 lt2 lt3 ho hj hjl hB
      go_wp2_with fail
      refine TA.out.mono ?_
      rintro e w3 ⟨ks1, A1, cap1, rfl, hp1, hs1, hT1, hF1, ⟨S1, hSF1, _⟩, ho1⟩
      rw [HB.out] at ho1
      have TB := Lib.hid (two_tick (B := B) m hT1 HI2.out m0 (by omega) hF1)
      rw [HLt.out.1] at TB
      have HO1 := Lib.hid ho1
      have HP1 := Lib.hid (And.intro hp1 hs1)
      have hl1 : ks1.length ≤ 300 := by have h1 := hp1.length_eq; have h2 := dks_len n L; have h3 := HI.out.len; omega
      have HS3 : Hid (B ≤ w3.heap.size) := Lib.hid (by rw [← HB.out]; exact hSF1.size)
      clear TA hp1 hs1 hT1 hF1 ho1 hSF1
      go_wp2_with fail
      refine TB.out.mono ?_
      rintro e w4 ⟨ks2, A2, cap2, rfl, hp2, hs2, hT2, hF2, ⟨S2, hSF2, hSB2⟩, ho2⟩
      have ho1 := own_fr HO1.out hSF2 hSB2
      have hl2 : ks2.length ≤ 300 := by have h1 := hp2.length_eq; have h2 := dks_len (n + m) (undue n L); have h3 := HI2.out.len; omega
      have hB4 : B ≤ w4.heap.size := Nat.le_trans HS3.out hSF2.size
      have HP2 := Lib.hid (And.intro hp2 hs2)
      have HT2 := Lib.hid hT2
      have HF2 := Lib.hid hF2
      clear TB hp2 hs2 hT2 hF2 hSF2 hSB2 HO1
      go_wp2_with (at_builtin; refine wpList_append_any _ rfl _ _ 32 rfl B 29 i0 (.agg #[.int .i64 0, .int .i64 0]) 2 16 Try.underlying32 hi hz0 hz1 hz2 rfl (by decide) _ ks1.length (flatKy ks1) rfl ho1 w4.heap.size A2 ks2.length cap2 (flatKy ks2) rfl (Reads.of_own ho2) (one_ky ks2) ?c3 ?c4 ?c5 ?_)
      case c3 => unfold maxLen; omega
      case c4 => omega
      case c5 => exact hB4
      intro v3 w5 hown5 hgr5 _
      have hG5 := grown_fr hgr5
      have hBs : ∀ y, y ∈ (Value.slice A1 ks1.length cap1).ownBlock.toList → B ≤ y := fun y hy => own_new ho1 y (by simpa using hy)
      obtain ⟨ma, mb, hT2, hbd⟩ := HT2.out
      have hT5 := hT2.frB hG5 hBs hbd
      have hF5 := HF2.out.grown hgr5 (fun k hk => Nat.le_trans HBw.out (own_new ho1 k hk))
      obtain ⟨A3, cap3, rfl⟩ := own_slice hown5
      rw [flatKy_app] at hown5
      have TC := Lib.hid (two_tick (B := B) (n + m) ⟨mb, ma, hT5.symm, fun x hx => hbd x hx.symm⟩ HI.out (by omega) (by omega) hF5)
      rw [HLt.out.2] at TC
      have HO5 := Lib.hid hown5
      have HS5 := Lib.hid (Nat.le_trans hB4 hG5.size)
      clear hgr5 hG5 hBs hT2 hbd hT5 hF5 hown5 ho1 ho2 HT2 HF2 hB4
      go_wp2_with fail
      refine TC.out.mono ?_
      rintro e w6 ⟨ks3, A4, cap4, rfl, hp3, hs3, ⟨mb', ma', hT6, _⟩, hF6, ⟨S6, hSF6, hSB6⟩, ho6⟩
      have hks : ks1 ++ ks2 = ks3 := ticks_two HI.out (by omega) HP1.out.1 HP2.out.1 hp3 HP1.out.2 HP2.out.2 hs3
      have ho5 := own_fr HO5.out hSF6 hSB6
      have hlen : ks1.length + ks2.length = ks3.length := by rw [← hks, List.length_append]
      rw [hks] at ho5
      rw [hlen] at ho5 ⊢
      have hund := undue_two (show n ≤ n + m by omega) L
      rw [hund] at hT6
      have LA := Lib.hid (len_any hT6.b)
      have LB := Lib.hid (len_any hT6.a)
      have NA := Lib.hid (now_any hT6.b)
      have NB := Lib.hid (now_any hT6.a)
      have HO5 := Lib.hid fun i k hk => own_at ho5 i k hk
      have HO6 := Lib.hid fun i k hk => own_at ho6 i k hk
      have hc5 : ks3.length ≤ cap3 ∧ cap3 ≤ maxLen := by
        rcases ho5.2 with ⟨h1, h2⟩ | ⟨g', cap', cur, h1, _, _, h4, h5, _⟩
        · injection h1 with _ _ e3; exact ⟨by omega, by unfold maxLen; omega⟩
        · injection h1 with _ _ e3; rw [e3]; exact ⟨h4, h5⟩
      have hc6 : ks3.length ≤ cap4 ∧ cap4 ≤ maxLen := by
        rcases ho6.2 with ⟨h1, h2⟩ | ⟨g', cap', cur, h1, _, _, h4, h5, _⟩
        · injection h1 with _ _ e3; exact ⟨by omega, by unfold maxLen; omega⟩
        · injection h1 with _ _ e3; rw [e3]; exact ⟨h4, h5⟩
      obtain ⟨c51, c52⟩ := hc5
      obtain ⟨c61, c62⟩ := hc6
      unfold maxLen at c52 c62
      have hl3 : ks3.length ≤ 600 := by omega
      have HF6 := Lib.hid hF6
      have HKL := Lib.hid hlen
      clear hT6 hF6 hund ho5 ho6 hks hlen hp3 hs3 hSF6 hSB6 TC HP1 HP2 HI HI2 HLt hl1 hl2 hi hz0 hz1 hz2
      go_wp2_with fail
      refine LA.out.mono ?_
      rintro e w7 ⟨rfl, rfl⟩
      go_wp2_with fail
      refine LB.out.mono ?_
      rintro e w7 ⟨rfl, rfl⟩
      go_wp2_with fail
      refine NA.out.mono ?_
      rintro e w7 ⟨rfl, rfl⟩
      go_wp2_with fail
      refine NB.out.mono ?_
      rintro e w7 ⟨rfl, rfl⟩
      clear LA LB NA NB
      go_wp2_with fail
      go_loopw [13] (fun iv wx => ∃ j : Nat, j ≤ ks3.length ∧ iv = .int .i64 j ∧ Fr [] w7 wx) (fun iv _ => ks3.length - (intOf iv).toNat)
      case atStart => exact ⟨0, by omega, rfl, Fr.refl _ _⟩
      case round =>
        obtain ⟨i, hi, rfl, hF7⟩ := hrel
        by_cases hil : i < ks3.length
        · obtain ⟨⟨k1, k2⟩, hk⟩ : ∃ k, ks3[i]? = some k := ⟨_, List.getElem?_eq_getElem hil⟩
          obtain ⟨g5, rfl, hc5⟩ := HO5.out i _ hk
          obtain ⟨g6, rfl, hc6⟩ := HO6.out i _ hk
          obtain ⟨d1, d2⟩ := hc5 _ hF7
          obtain ⟨d3, d4⟩ := hc6 _ hF7
          simp only at d1 d2 d3 d4
          have heq : ∀ W, (Op.equalIn 10000 29 (.agg #[.int .i64 k1, .int .i64 k2]) (.agg #[.int .i64 k1, .int .i64 k2])).run Try.prog W = .ok true W := fun W => by
            have := eq_two 29 (by kernel_rfl) (by kernel_rfl) (by kernel_rfl) k1 k2 k1 k2 W
            rwa [decide_eq_true ⟨rfl, rfl⟩] at this
          have hib : (i : Int) ≤ 600 := by omega
          clear hc5 hc6 hk
          go_wp2_with fail
          go_quiet (fail)
          go_wp2_with fail
          go_roundw
          case rel => exact ⟨i + 1, by omega, by go_num, hF7.drewN _⟩
          case measure => (simp [intOf]) <;> omega
        · obtain rfl : i = ks3.length := by omega
          have hge : ¬ (ks3.length : Int) < ks3.length := by omega
          have HF7 := Lib.hid hF7
          clear hi hil hF7
          go_wp2_with fail
          refine (alive3 _).mono ?_
          rintro e w8 ⟨rfl, hF8⟩
          have HF8 := Lib.hid ((HF6.out.trans HF7.out).trans hF8)
          clear hF8
          go_wp2_with fail
          go_ret
          exact ⟨rfl, HF8.out.below (Nat.le_refl _) (by simp)⟩
set_option maxRecDepth 100000 in
set_option maxHeartbeats 4000000 in
theorem tapePieces_walk (w : World) (a : Option Addr) (len cap : Nat) (l : List OpR) (hl : IsOps w a len cap l) (n : Int) (n0 : -9223372036854775808 ≤ n) (n1 : n ≤ 9223372036854775807) (m : Int) (m0 : -9223372036854775808 ≤ m) (m1 : m ≤ 9223372036854775807) :
    Calls Try.prog 3 #[.slice a len cap, .int .i64 n, .int .i64 m] w fun e w' => e = .returned (.bool true) ∧ Below w.heap.size w w' := by
  by_cases h : (len : Int) ≤ 60 ∧ 1 ≤ n ∧ 1 ≤ m ∧ n ≤ 100000 ∧ m ≤ 100000
  · exact pieces_small w a len cap l hl n m (by omega) h.2.1 h.2.2.2.1 h.2.2.1 h.2.2.2.2
  · have hX : (60 : Int) < len ∨ ¬ (60 : Int) < len ∧ n < 1 ∨ ¬ (60 : Int) < len ∧ ¬ n < 1 ∧ m < 1 ∨ ¬ (60 : Int) < len ∧ ¬ n < 1 ∧ ¬ m < 1 ∧ 100000 < n ∨ ¬ (60 : Int) < len ∧ ¬ n < 1 ∧ ¬ m < 1 ∧ ¬ 100000 < n ∧ 100000 < m := by omega
    have hmax := hl.2.2.1
    have hcap := hl.2.1
    unfold maxLen at hmax
    clear h hl
    rcases hX with h1 | ⟨h1, h2⟩ | ⟨h1, h2, h3⟩ | ⟨h1, h2, h3, h4⟩ | ⟨h1, h2, h3, h4, h5⟩
    all_goals
      go_enter Try.func3, Try.ntmps3
      go_wp2_with fail
      refine (alive3 _).mono ?_
      rintro e w1 ⟨rfl, hG⟩
      go_wp2_with fail
      go_ret
      exact ⟨rfl, hG.below (Nat.le_refl _) (by simp)⟩
end Go.Proofs.Ytgmlkdchnpacaaa
