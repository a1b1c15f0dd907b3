/- The digest: the document's. -/
import Derived.Test.YtfchbppfbepelaaGreatRMd5L
import Derived.Test.YtfchbppfbepelaaGreatRTurn
namespace Go.Proofs.YtfchbppfbepelaaGreat
open Go.RowKit
set_option linter.unusedVariables false

set_option maxRecDepth 100000 in
set_option maxHeartbeats 40000000 in
theorem rmd5_any (l : List UInt8) (w : World) (hl : l.length ≤ 100000) :
    Calls Tryz.prog 288 #[.string (B l)] w fun e w' => e = .returned (.agg (arr8 (md5 l))) ∧ Fr [] w w' := by
  obtain ⟨R, hR⟩ : ∃ R, R = z16 := ⟨_, rfl⟩
  have hq0 : ¬ 9223372036854775807 < l.length + 1 := by omega
  go_enter Tryz.func288, Tryz.ntmps288
  go_wp2_with (first | (refine wpList_slit rfl 276 64 _ rfl tabI 3 (fun w => by kernel_rfl) ?_) | (refine wpList_slit rfl 276 16 _ rfl turnI 3 (fun w => by kernel_rfl) ?_))
  go_loopw [5] (fun mv wr => ∃ k : Nat, k ≤ zerosN l.length ∧ mv = .string (B (l ++ 128 :: List.replicate k 0)) ∧ Blk wr (w.heap.size + 1) tabI 3 ∧ Blk wr (w.heap.size + 1 + 1) turnI 3 ∧ Blk wr w.heap.size R 381 ∧ Fr [] w wr) (fun mv _ => 200000 - strV mv)
  case atStart =>
    rw [hR]
    exact ⟨0, Nat.zero_le _, rfl, (Blk.new1 _ _ _ _).alloc _, Blk.new2 _ _ _ _ _, ((Blk.new _ _ _).alloc _).alloc _, (((Fr.refl _ _).alloc _).alloc _).alloc _⟩
  case round =>
    obtain ⟨k, hk, rfl, hT1, hT2, hB, hF⟩ := hrel
    have HR := Lib.hid hR
    clear hR
    have hZ : zerosN l.length < 64 := by unfold zerosN; omega
    have hlen : (l ++ 128 :: List.replicate k 0).length = l.length + k + 1 := by simp; omega
    by_cases hlt : k < zerosN l.length
    · have hb : (((l.length : Int) + ((k : Int) + 1)) % 64 != 56) = true := by
        rw [bne_iff_ne]; unfold zerosN at hlt; omega
      have happ : l ++ 128 :: List.replicate k 0 ++ [0] = l ++ 128 :: List.replicate (k + 1) 0 := by simp [List.replicate_succ']
      obtain ⟨L, hL⟩ : ∃ L, l ++ 128 :: List.replicate k 0 = L := ⟨_, rfl⟩
      rw [hL] at hlen happ ⊢
      have hb : ((L.length : Int) % 64 != 56) = true := by rw [bne_iff_ne]; unfold zerosN at hlt; omega
      have hq : ¬ 9223372036854775807 < L.length + 1 := by omega
      have hll : L.length ≤ 100064 := by omega
      have Ha := Lib.hid happ
      have Hlt := Lib.hid hlt
      have Hlen := Lib.hid hlen
      clear hL hlen happ hlt hZ hk
      go_wp2
      go_roundw
      case rel => exact ⟨k + 1, Hlt.out, by rw [← Ha.out], hT1, hT2, hB, hF⟩
      case measure => simp [strV, B_size]; omega
    · have hkz : k = zerosN l.length := by omega
      have hlen2 := hlen
      obtain ⟨L, hL⟩ : ∃ L, l ++ 128 :: List.replicate k 0 = L := ⟨_, rfl⟩
      rw [hL] at hlen hlen2 ⊢
      have hb : ((L.length : Int) % 64 != 56) = false := by rw [bne_eq_false_iff_eq]; unfold zerosN at hkz; omega
      have hpad : L ++ longL l.length = padL l := by rw [← hL, hkz]; simp [padL, tailL]
      have hll : L.length ≤ 100064 := by omega
      have Hpad := Lib.hid hpad
      clear hL hlen hlen2 hkz hZ hk hlt hpad
      go_wp2
      obtain ⟨wo, rfl⟩ : ∃ wo : World, wo = wr := ⟨_, rfl⟩
      go_loopw [5, 6, 7] (fun mv sv iv wr => ∃ j : Nat, j ≤ 8 ∧ iv = .int .i64 j ∧ mv = .string (B (L ++ (longL l.length).take j)) ∧ sv = .int .i64 ((l.length : Int) * 8 / 2 ^ (8 * j)) ∧ Blk wr (w.heap.size + 1) tabI 3 ∧ Blk wr (w.heap.size + 1 + 1) turnI 3 ∧ Blk wr w.heap.size R 381 ∧ Fr [] w wr) (fun _ _ iv _ => 8 - (intOf iv).toNat)
      case atStart => exact ⟨0, by omega, rfl, by simp, by simp, hT1, hT2, hB, hF⟩
      case round =>
        clear hT1 hT2 hB hF
        obtain ⟨j, hj, rfl, rfl, rfl, hT1, hT2, hB, hF⟩ := hrel
        by_cases hlt : j < 8
        · obtain ⟨X, hX⟩ : ∃ X : Int, (l.length : Int) * 8 / 2 ^ (8 * j) = X := ⟨_, rfl⟩
          have x0 : 0 ≤ X := by rw [← hX]; exact Int.ediv_nonneg (by omega) (Int.pow_nonneg (by decide))
          have x1 : X ≤ 800000 := by
            rw [← hX]
            exact Int.le_trans (Int.ediv_le_self _ (by omega)) (by omega)
          rw [hX]
          obtain ⟨P, hP⟩ : ∃ P, L ++ (longL l.length).take j = P := ⟨_, rfl⟩
          rw [hP]
          have hPl : P.length ≤ 100100 := by rw [← hP, List.length_append, List.length_take]; omega
          have hq : ¬ 9223372036854775807 < P.length + 1 := by omega
          have hcv : ∀ W : World, (convert 383 9 (.slice (some ⟨W.heap.size, 0, none⟩) 1 1)).run Tryz.prog (W.alloc (.cells #[.int .u8 (X % 256)] 5)) = .ok (.string (B (bytesOf [X % 256]))) (W.alloc (.cells #[.int .u8 (X % 256)] 5)) := fun W => run_str Tryz.underlying383 Tryz.underlying5 Tryz.underlying9 [X % 256] (Blk.new _ _ _) 1 rfl
          have hb1 : (bytesOf [X % 256]).length = 1 := rfl
          have HX := Lib.hid hX
          have HP := Lib.hid hP
          clear hX hP
          go_wp2
          go_roundw
          case rel => exact ⟨j + 1, by omega, by go_num, by rw [take_long _ _ hlt, HX.out, ← List.append_assoc, HP.out], by rw [← div_next, HX.out], hT1.alloc _, hT2.alloc _, hB.alloc _, hF.alloc _⟩
          case measure => (simp [intOf]) <;> omega
        · have h8 : j = 8 := by omega
          have htk : (longL l.length).take j = longL l.length := List.take_of_length_le (by simp [longL]; omega)
          rw [htk, Hpad.out]
          have hp := padL_length l
          obtain ⟨M, hM⟩ : ∃ M, padL l = M := ⟨_, rfl⟩
          rw [hM] at hp ⊢
          have HM := Lib.hid hM
          have Hp := Lib.hid hp
          have H8 := Lib.hid h8
          have hd8 : decide ((j : Int) < 8) = false := by simp; omega
          clear hM hp h8 htk Hpad
          obtain ⟨X, hX⟩ : ∃ X : Int, (l.length : Int) * 8 / 2 ^ (8 * j) = X := ⟨_, rfl⟩
          rw [hX]
          clear hX
          go_wp2
          obtain ⟨wp, rfl⟩ : ∃ wp : World, wp = wr := ⟨_, rfl⟩
          have gg : w.heap.size < wp.heap.size := hB.lt
          have g1 : w.heap.size + 1 < wp.heap.size := hT1.lt
          have g2 : w.heap.size + 1 + 1 < wp.heap.size := hT2.lt
          go_loopw [9] (fun av wr => ∃ m : Nat, 64 * m ≤ M.length ∧ av = .int .i64 ((64 * m : Nat) : Int) ∧ Blk wr wp.heap.size (stI (mdAt M m)) 415 ∧ Blk wr (w.heap.size + 1) tabI 3 ∧ Blk wr (w.heap.size + 1 + 1) turnI 3 ∧ Blk wr w.heap.size R 381 ∧ Fr [] w wr) (fun av _ => M.length - (intOf av).toNat)
          case atStart => exact ⟨0, by omega, rfl, Blk.new _ _ _, hT1.alloc _, hT2.alloc _, hB.alloc _, hF.alloc _⟩
          case round =>
            clear hT1 hT2 hB hF
            obtain ⟨m, hm, rfl, hS, hT1, hT2, hB, hF⟩ := hrel
            obtain ⟨p64, plen, plt⟩ := Hp.out
            have ok := mdAt_ok M m
            have hnext : mdAt M (m + 1) = onS (mdAt M m) (wordsL (M.drop (64 * m))) := rfl
            obtain ⟨t, ht⟩ : ∃ t, mdAt M m = t := ⟨_, rfl⟩
            rw [ht] at ok hS hnext
            by_cases hlt : 64 * m < M.length
            · have hsz : 64 * m + 64 ≤ M.length := by omega
              have hml : M.length ≤ 200000 := by omega
              obtain ⟨at_, hat⟩ : ∃ a : Nat, 64 * m = a := ⟨_, rfl⟩
              rw [hat] at hsz hlt hnext ⊢
              have Hat := Lib.hid hat
              have Hn := Lib.hid hnext
              have Hok := Lib.hid ok
              obtain ⟨A0, hA0⟩ : ∃ x : Int, (t.a : Int) = x := ⟨_, rfl⟩
              obtain ⟨B0, hB0⟩ : ∃ x : Int, (t.b : Int) = x := ⟨_, rfl⟩
              obtain ⟨C0, hC0⟩ : ∃ x : Int, (t.c : Int) = x := ⟨_, rfl⟩
              obtain ⟨D0, hD0⟩ : ∃ x : Int, (t.d : Int) = x := ⟨_, rfl⟩
              have s0 := hS.c 0 (.int .i64 A0) (by rw [← hA0]; rfl)
              have s1 := hS.c 1 (.int .i64 B0) (by rw [← hB0]; rfl)
              have s2 := hS.c 2 (.int .i64 C0) (by rw [← hC0]; rfl)
              have s3 := hS.c 3 (.int .i64 D0) (by rw [← hD0]; rfl)
              have Hab := Lib.hid (And.intro hA0 (And.intro hB0 (And.intro hC0 hD0)))
              clear hat hnext ok ht plen plt p64 hm hA0 hB0 hC0 hD0
              go_wp2_with fail
              go_region
              all_goals go_wp2_with fail
              -- GENMARK
              obtain ⟨wi, rfl⟩ : ∃ wi : World, wi = wr := ⟨_, rfl⟩
              obtain ⟨ws, hws⟩ : ∃ ws, wordsL (M.drop at_) = ws := ⟨_, rfl⟩
              have hws32 := wordsL_lt (M.drop at_)
              rw [hws] at hws32
              have H32 := Lib.hid hws32
              have Hws := Lib.hid hws
              clear hws32 hws
              have hfz0 := hS.fz 0
              clear hfz0
              go_loopw [10, 11, 12, 13, 14] (fun a b c d iv wr => ∃ i : Nat, i ≤ 64 ∧ iv = .int .i64 i ∧ a = .int .i64 ((stepsS ws t i).a : Nat) ∧ b = .int .i64 ((stepsS ws t i).b : Nat) ∧ c = .int .i64 ((stepsS ws t i).c : Nat) ∧ d = .int .i64 ((stepsS ws t i).d : Nat) ∧
                  Blk wr wp.heap.size (stI t) 415 ∧ Blk wr (w.heap.size + 1) tabI 3 ∧ Blk wr (w.heap.size + 1 + 1) turnI 3 ∧ Blk wr w.heap.size R 381 ∧ Fr [] w wr) (fun _ _ _ _ iv _ => 64 - (intOf iv).toNat)
              case atStart =>
                obtain ⟨a0, b0, c0, d0⟩ := Hab.out
                rw [← a0, ← b0, ← c0, ← d0]
                exact ⟨0, by omega, rfl, rfl, rfl, rfl, rfl, hS.drew, hT1.drew, hT2.drew, hB.drew, hF.drew⟩
              case round =>
                clear s0 s1 s2 s3 hS hT1 hT2 hB hF
                obtain ⟨i, hi64, rfl, rfl, rfl, rfl, rfl, hS, hT1, hT2, hB, hF⟩ := hrel
                have ok := stepsS_ok ws Hok.out i
                obtain ⟨u, hu⟩ : ∃ u, stepsS ws t i = u := ⟨_, rfl⟩
                have hnx : stepsS ws t (i + 1) = stepS ws i u := by rw [← hu]; rfl
                rw [hu] at ok ⊢
                have Hnx := Lib.hid hnx
                have Hu := Lib.hid hu
                clear hnx hu
                obtain ⟨A, hA⟩ : ∃ x : Int, (u.a : Int) = x := ⟨_, rfl⟩
                obtain ⟨B', hB'⟩ : ∃ x : Int, (u.b : Int) = x := ⟨_, rfl⟩
                obtain ⟨C, hC⟩ : ∃ x : Int, (u.c : Int) = x := ⟨_, rfl⟩
                obtain ⟨D, hD⟩ : ∃ x : Int, (u.d : Int) = x := ⟨_, rfl⟩
                have A0' : 0 ≤ A := by omega
                have A1 : A < 4294967296 := by have := ok.a; omega
                have B0' : 0 ≤ B' := by omega
                have B1 : B' < 4294967296 := by have := ok.b; omega
                have C0' : 0 ≤ C := by omega
                have C1 : C < 4294967296 := by have := ok.c; omega
                have D0' : 0 ≤ D := by omega
                have D1 : D < 4294967296 := by have := ok.d; omega
                have Huok := Lib.hid ok
                rw [hA, hB', hC, hD]
                have HA := Lib.hid hA
                have HB := Lib.hid hB'
                have HC := Lib.hid hC
                have HD := Lib.hid hD
                clear hA hB' hC hD ok
                by_cases hlt2 : i < 64
                · obtain ⟨F, hFm⟩ : ∃ x : Int, mixI i B' C D = x := ⟨_, rfl⟩
                  have hF0 := mixI_bd i B' C D B0' B1 C0' C1 D0' D1
                  rw [hFm] at hF0
                  obtain ⟨F0, F1⟩ := hF0
                  obtain ⟨q, hq⟩ : ∃ x : Nat, mixK i = x := ⟨_, rfl⟩
                  have hq16 : q < 16 := by have := mixK_lt i; omega
                  obtain ⟨V, hV⟩ : ∃ x : Int, ((ws.getD (mixK i) 0 : Nat) : Int) = x := ⟨_, rfl⟩
                  have V0 : 0 ≤ V := by omega
                  have V1 : V < 4294967296 := by have := H32.out (mixK i); omega
                  have c1 := hT1.c i _ (tabI_get i hlt2)
                  obtain ⟨TB, hTB⟩ : ∃ x : Int, ((tabL.getD i 0 : Nat) : Int) = x := ⟨_, rfl⟩
                  have TB0 : 0 ≤ TB := by omega
                  have TB1 : TB < 4294967296 := by have := tabL_lt i; omega
                  rw [hTB] at c1
                  have c2 := hT2.c (i / 16 * 4 + i % 4) _ (turnI_get i hlt2)
                  obtain ⟨TN, hTN⟩ : ∃ x : Int, ((turnOf i : Nat) : Int) = x := ⟨_, rfl⟩
                  have TN0 : 0 ≤ TN := by omega
                  have TN1 : TN < 32 := by have := turnOf_lt i; omega
                  rw [hTN] at c2
                  have HTB := Lib.hid hTB
                  have HTN := Lib.hid hTN
                  have HV := Lib.hid hV
                  have Hq := Lib.hid hq
                  have HFm := Lib.hid hFm
                  clear hTB hTN hV hq hFm
                  by_cases h16 : i < 16
                  · have hq0 : ((i : Int) / 16 == 0) = true := by rw [beq_iff_eq]; omega
                    have hqi : q = i := by rw [← Hq.out]; unfold mixK; rw [if_pos h16]
                    have hf := fmix_0 i B' C D F h16 B0' B1 C0' C1 D0' D1 HFm.out
                    have Hqi := Lib.hid hqi
                    clear hqi
                    as_aux_lemma =>
                      have hb16 : (i : Int) / 16 * 4 + (i : Int) % 4 < 16 := by omega
                      have hb17 : 0 ≤ (i : Int) / 16 * 4 + (i : Int) % 4 := by omega
                      have aq : at_ + 4 * i + 3 < M.length := by omega
                      obtain ⟨Y0, hY0⟩ : ∃ x : Int, ((M[at_ + 4 * i]'(by omega)).toNat : Int) = x := ⟨_, rfl⟩
                      obtain ⟨Y1, hY1⟩ : ∃ x : Int, ((M[at_ + 4 * i + 1]'(by omega)).toNat : Int) = x := ⟨_, rfl⟩
                      obtain ⟨Y2, hY2⟩ : ∃ x : Int, ((M[at_ + 4 * i + 2]'(by omega)).toNat : Int) = x := ⟨_, rfl⟩
                      obtain ⟨Y3, hY3⟩ : ∃ x : Int, ((M[at_ + 4 * i + 3]'(by omega)).toNat : Int) = x := ⟨_, rfl⟩
                      have y0 : 0 ≤ Y0 ∧ Y0 < 256 := by rw [← hY0]; exact ⟨by omega, byte_bd _⟩
                      have y1 : 0 ≤ Y1 ∧ Y1 < 256 := by rw [← hY1]; exact ⟨by omega, byte_bd _⟩
                      have y2 : 0 ≤ Y2 ∧ Y2 < 256 := by rw [← hY2]; exact ⟨by omega, byte_bd _⟩
                      have y3 : 0 ≤ Y3 ∧ Y3 < 256 := by rw [← hY3]; exact ⟨by omega, byte_bd _⟩
                      have hVy : Y0 + Y1 * 256 + Y2 * 65536 + Y3 * 16777216 = V := by
                        rw [← hY0, ← hY1, ← hY2, ← hY3, ← HV.out, Hq.out, Hqi.out, ← Hws.out]
                        exact word_at M at_ i (by omega) aq
                      have j0 : IntKind.i64.wrap (4 * (i : Int)) = 4 * (i : Int) := IntWalk.i64_in _ (by omega)
                      have j1 : IntKind.i64.wrap ((at_ : Int) + 4 * (i : Int)) = (at_ : Int) + 4 * (i : Int) := IntWalk.i64_in _ (by omega)
                      have j2 : IntKind.i64.wrap ((at_ : Int) + 4 * (i : Int) + 1) = (at_ : Int) + 4 * (i : Int) + 1 := IntWalk.i64_in _ (by omega)
                      have j3 : IntKind.i64.wrap ((at_ : Int) + 4 * (i : Int) + 2) = (at_ : Int) + 4 * (i : Int) + 2 := IntWalk.i64_in _ (by omega)
                      have j4 : IntKind.i64.wrap ((at_ : Int) + 4 * (i : Int) + 3) = (at_ : Int) + 4 * (i : Int) + 3 := IntWalk.i64_in _ (by omega)
                      have t1 : ((at_ : Int) + 4 * (i : Int)).toNat = at_ + 4 * i := by omega
                      have t2 : ((at_ : Int) + 4 * (i : Int) + 1).toNat = at_ + 4 * i + 1 := by omega
                      have t3 : ((at_ : Int) + 4 * (i : Int) + 2).toNat = at_ + 4 * i + 2 := by omega
                      have t4 : ((at_ : Int) + 4 * (i : Int) + 3).toNat = at_ + 4 * i + 3 := by omega
                      have n1 : (0 : Int) ≤ (at_ : Int) + 4 * (i : Int) := by omega
                      have n2 : (0 : Int) ≤ (at_ : Int) + 4 * (i : Int) + 1 := by omega
                      have n3 : (0 : Int) ≤ (at_ : Int) + 4 * (i : Int) + 2 := by omega
                      have n4 : (0 : Int) ≤ (at_ : Int) + 4 * (i : Int) + 3 := by omega
                      have l1 : (at_ : Int) + 4 * (i : Int) < M.length := by omega
                      have l2 : (at_ : Int) + 4 * (i : Int) + 1 < M.length := by omega
                      have l3 : (at_ : Int) + 4 * (i : Int) + 2 < M.length := by omega
                      have l4 : (at_ : Int) + 4 * (i : Int) + 3 < M.length := by omega
                      have v0 : wrap64 Y0 = Y0 := IntWalk.wrap64_in _ (by omega)
                      have v1 : wrap64 Y1 = Y1 := IntWalk.wrap64_in _ (by omega)
                      have v2 : wrap64 Y2 = Y2 := IntWalk.wrap64_in _ (by omega)
                      have v3 : wrap64 Y3 = Y3 := IntWalk.wrap64_in _ (by omega)
                      have m1 : wrap64 (Y1 * 256) = Y1 * 256 := IntWalk.wrap64_in _ (by omega)
                      have m2 : wrap64 (Y2 * 65536) = Y2 * 65536 := IntWalk.wrap64_in _ (by omega)
                      have m3 : wrap64 (Y3 * 16777216) = Y3 * 16777216 := IntWalk.wrap64_in _ (by omega)
                      have a1 : wrap64 (Y0 + Y1 * 256) = Y0 + Y1 * 256 := IntWalk.wrap64_in _ (by omega)
                      have a2 : wrap64 (Y0 + Y1 * 256 + Y2 * 65536) = Y0 + Y1 * 256 + Y2 * 65536 := IntWalk.wrap64_in _ (by omega)
                      have a3 : wrap64 (Y0 + Y1 * 256 + Y2 * 65536 + Y3 * 16777216) = V := by rw [hVy]; exact IntWalk.wrap64_in _ (by omega)
                      have HVy := Lib.hid hVy
                      clear y0 y1 y2 y3 hVy
                      go_wp2
                      go_quiet (fail)
                      all_goals go_wp2_with fail
                      refine (rturn_i _ TN _ (Int.emod_nonneg _ (by omega)) (Int.emod_lt_of_pos _ (by omega)) TN0 TN1).mono ?_
                      have hrb := rotI_bd TN ((F + A + TB + V) % 4294967296) (Int.emod_nonneg _ (by omega)) (Int.emod_lt_of_pos _ (by omega))
                      have hst := rstep_val ws i u Huok.out A B' C D F V TB TN HA.out HB.out HC.out HD.out HV.out HFm.out HTB.out HTN.out
                      obtain ⟨RT, hRT⟩ : ∃ x, rotI TN ((F + A + TB + V) % 4294967296) = x := ⟨_, rfl⟩
                      rw [hRT] at hrb hst ⊢
                      obtain ⟨rt0, rt1⟩ := hrb
                      have HRT := Lib.hid hRT
                      have Hst := Lib.hid hst
                      clear hRT hst
                      rintro e w1 ⟨rfl, rfl⟩
                      clear hY0 hY1 hY2 hY3 j0 j1 j2 j3 j4 t1 t2 t3 t4 v0 v1 v2 v3 m1 m2 m3 a1 a2 a3 hf
                      go_wp2
                      go_roundw
                      case rel =>
                        refine ⟨i + 1, by omega, by go_num, ?_, ?_, ?_, ?_, hS.drewN nq, hT1.drewN nq, hT2.drewN nq, hB.drewN nq, hF.drewN nq⟩
                        · rw [Hnx.out, ← HD.out]; rfl
                        · rw [Hnx.out, Hst.out]; rfl
                        · rw [Hnx.out, ← HB.out]; rfl
                        · rw [Hnx.out, ← HC.out]; rfl
                      case measure => (simp [intOf]) <;> omega
                  · by_cases h32 : i < 32
                    · have hq0 : ((i : Int) / 16 == 0) = false := by rw [beq_eq_false_iff_ne]; omega
                      have hq1 : ((i : Int) / 16 == 1) = true := by rw [beq_iff_eq]; omega
                      have hf := fmix_1 i B' C D F h16 h32 B0' B1 C0' C1 D0' D1 HFm.out
                      have hkq : (5 * (i : Int) + 1) % 16 = (q : Int) := by rw [← Hq.out]; unfold mixK; rw [if_neg h16, if_pos h32]; omega
                      as_aux_lemma =>
                        have hb16 : (i : Int) / 16 * 4 + (i : Int) % 4 < 16 := by omega
                        have hb17 : 0 ≤ (i : Int) / 16 * 4 + (i : Int) % 4 := by omega
                        have aq : at_ + 4 * q + 3 < M.length := by omega
                        obtain ⟨Y0, hY0⟩ : ∃ x : Int, ((M[at_ + 4 * q]'(by omega)).toNat : Int) = x := ⟨_, rfl⟩
                        obtain ⟨Y1, hY1⟩ : ∃ x : Int, ((M[at_ + 4 * q + 1]'(by omega)).toNat : Int) = x := ⟨_, rfl⟩
                        obtain ⟨Y2, hY2⟩ : ∃ x : Int, ((M[at_ + 4 * q + 2]'(by omega)).toNat : Int) = x := ⟨_, rfl⟩
                        obtain ⟨Y3, hY3⟩ : ∃ x : Int, ((M[at_ + 4 * q + 3]'(by omega)).toNat : Int) = x := ⟨_, rfl⟩
                        have y0 : 0 ≤ Y0 ∧ Y0 < 256 := by rw [← hY0]; exact ⟨by omega, byte_bd _⟩
                        have y1 : 0 ≤ Y1 ∧ Y1 < 256 := by rw [← hY1]; exact ⟨by omega, byte_bd _⟩
                        have y2 : 0 ≤ Y2 ∧ Y2 < 256 := by rw [← hY2]; exact ⟨by omega, byte_bd _⟩
                        have y3 : 0 ≤ Y3 ∧ Y3 < 256 := by rw [← hY3]; exact ⟨by omega, byte_bd _⟩
                        have hVy : Y0 + Y1 * 256 + Y2 * 65536 + Y3 * 16777216 = V := by
                          rw [← hY0, ← hY1, ← hY2, ← hY3, ← HV.out, Hq.out, ← Hws.out]
                          exact word_at M at_ q (by omega) aq
                        have j0 : IntKind.i64.wrap (4 * (q : Int)) = 4 * (q : Int) := IntWalk.i64_in _ (by omega)
                        have j1 : IntKind.i64.wrap ((at_ : Int) + 4 * (q : Int)) = (at_ : Int) + 4 * (q : Int) := IntWalk.i64_in _ (by omega)
                        have j2 : IntKind.i64.wrap ((at_ : Int) + 4 * (q : Int) + 1) = (at_ : Int) + 4 * (q : Int) + 1 := IntWalk.i64_in _ (by omega)
                        have j3 : IntKind.i64.wrap ((at_ : Int) + 4 * (q : Int) + 2) = (at_ : Int) + 4 * (q : Int) + 2 := IntWalk.i64_in _ (by omega)
                        have j4 : IntKind.i64.wrap ((at_ : Int) + 4 * (q : Int) + 3) = (at_ : Int) + 4 * (q : Int) + 3 := IntWalk.i64_in _ (by omega)
                        have t1 : ((at_ : Int) + 4 * (q : Int)).toNat = at_ + 4 * q := by omega
                        have t2 : ((at_ : Int) + 4 * (q : Int) + 1).toNat = at_ + 4 * q + 1 := by omega
                        have t3 : ((at_ : Int) + 4 * (q : Int) + 2).toNat = at_ + 4 * q + 2 := by omega
                        have t4 : ((at_ : Int) + 4 * (q : Int) + 3).toNat = at_ + 4 * q + 3 := by omega
                        have n1 : (0 : Int) ≤ (at_ : Int) + 4 * (q : Int) := by omega
                        have n2 : (0 : Int) ≤ (at_ : Int) + 4 * (q : Int) + 1 := by omega
                        have n3 : (0 : Int) ≤ (at_ : Int) + 4 * (q : Int) + 2 := by omega
                        have n4 : (0 : Int) ≤ (at_ : Int) + 4 * (q : Int) + 3 := by omega
                        have l1 : (at_ : Int) + 4 * (q : Int) < M.length := by omega
                        have l2 : (at_ : Int) + 4 * (q : Int) + 1 < M.length := by omega
                        have l3 : (at_ : Int) + 4 * (q : Int) + 2 < M.length := by omega
                        have l4 : (at_ : Int) + 4 * (q : Int) + 3 < M.length := by omega
                        have v0 : wrap64 Y0 = Y0 := IntWalk.wrap64_in _ (by omega)
                        have v1 : wrap64 Y1 = Y1 := IntWalk.wrap64_in _ (by omega)
                        have v2 : wrap64 Y2 = Y2 := IntWalk.wrap64_in _ (by omega)
                        have v3 : wrap64 Y3 = Y3 := IntWalk.wrap64_in _ (by omega)
                        have m1 : wrap64 (Y1 * 256) = Y1 * 256 := IntWalk.wrap64_in _ (by omega)
                        have m2 : wrap64 (Y2 * 65536) = Y2 * 65536 := IntWalk.wrap64_in _ (by omega)
                        have m3 : wrap64 (Y3 * 16777216) = Y3 * 16777216 := IntWalk.wrap64_in _ (by omega)
                        have a1 : wrap64 (Y0 + Y1 * 256) = Y0 + Y1 * 256 := IntWalk.wrap64_in _ (by omega)
                        have a2 : wrap64 (Y0 + Y1 * 256 + Y2 * 65536) = Y0 + Y1 * 256 + Y2 * 65536 := IntWalk.wrap64_in _ (by omega)
                        have a3 : wrap64 (Y0 + Y1 * 256 + Y2 * 65536 + Y3 * 16777216) = V := by rw [hVy]; exact IntWalk.wrap64_in _ (by omega)
                        have HVy := Lib.hid hVy
                        clear y0 y1 y2 y3 hVy
                        go_wp2
                        go_quiet (fail)
                        all_goals go_wp2_with fail
                        refine (rturn_i _ TN _ (Int.emod_nonneg _ (by omega)) (Int.emod_lt_of_pos _ (by omega)) TN0 TN1).mono ?_
                        have hrb := rotI_bd TN ((F + A + TB + V) % 4294967296) (Int.emod_nonneg _ (by omega)) (Int.emod_lt_of_pos _ (by omega))
                        have hst := rstep_val ws i u Huok.out A B' C D F V TB TN HA.out HB.out HC.out HD.out HV.out HFm.out HTB.out HTN.out
                        obtain ⟨RT, hRT⟩ : ∃ x, rotI TN ((F + A + TB + V) % 4294967296) = x := ⟨_, rfl⟩
                        rw [hRT] at hrb hst ⊢
                        obtain ⟨rt0, rt1⟩ := hrb
                        have HRT := Lib.hid hRT
                        have Hst := Lib.hid hst
                        clear hRT hst
                        rintro e w1 ⟨rfl, rfl⟩
                        clear hY0 hY1 hY2 hY3 j0 j1 j2 j3 j4 t1 t2 t3 t4 v0 v1 v2 v3 m1 m2 m3 a1 a2 a3 hf
                        go_wp2
                        go_roundw
                        case rel =>
                          refine ⟨i + 1, by omega, by go_num, ?_, ?_, ?_, ?_, hS.drewN nq, hT1.drewN nq, hT2.drewN nq, hB.drewN nq, hF.drewN nq⟩
                          · rw [Hnx.out, ← HD.out]; rfl
                          · rw [Hnx.out, Hst.out]; rfl
                          · rw [Hnx.out, ← HB.out]; rfl
                          · rw [Hnx.out, ← HC.out]; rfl
                        case measure => (simp [intOf]) <;> omega
                    · by_cases h48 : i < 48
                      · have hq0 : ((i : Int) / 16 == 0) = false := by rw [beq_eq_false_iff_ne]; omega
                        have hq1 : ((i : Int) / 16 == 1) = false := by rw [beq_eq_false_iff_ne]; omega
                        have hq2 : ((i : Int) / 16 == 2) = true := by rw [beq_iff_eq]; omega
                        have hf := fmix_2 i B' C D F h16 h32 h48 B0' B1 C0' C1 D0' D1 HFm.out
                        have hkq : (3 * (i : Int) + 5) % 16 = (q : Int) := by rw [← Hq.out]; unfold mixK; rw [if_neg h16, if_neg h32, if_pos h48]; omega
                        as_aux_lemma =>
                          have hb16 : (i : Int) / 16 * 4 + (i : Int) % 4 < 16 := by omega
                          have hb17 : 0 ≤ (i : Int) / 16 * 4 + (i : Int) % 4 := by omega
                          have aq : at_ + 4 * q + 3 < M.length := by omega
                          obtain ⟨Y0, hY0⟩ : ∃ x : Int, ((M[at_ + 4 * q]'(by omega)).toNat : Int) = x := ⟨_, rfl⟩
                          obtain ⟨Y1, hY1⟩ : ∃ x : Int, ((M[at_ + 4 * q + 1]'(by omega)).toNat : Int) = x := ⟨_, rfl⟩
                          obtain ⟨Y2, hY2⟩ : ∃ x : Int, ((M[at_ + 4 * q + 2]'(by omega)).toNat : Int) = x := ⟨_, rfl⟩
                          obtain ⟨Y3, hY3⟩ : ∃ x : Int, ((M[at_ + 4 * q + 3]'(by omega)).toNat : Int) = x := ⟨_, rfl⟩
                          have y0 : 0 ≤ Y0 ∧ Y0 < 256 := by rw [← hY0]; exact ⟨by omega, byte_bd _⟩
                          have y1 : 0 ≤ Y1 ∧ Y1 < 256 := by rw [← hY1]; exact ⟨by omega, byte_bd _⟩
                          have y2 : 0 ≤ Y2 ∧ Y2 < 256 := by rw [← hY2]; exact ⟨by omega, byte_bd _⟩
                          have y3 : 0 ≤ Y3 ∧ Y3 < 256 := by rw [← hY3]; exact ⟨by omega, byte_bd _⟩
                          have hVy : Y0 + Y1 * 256 + Y2 * 65536 + Y3 * 16777216 = V := by
                            rw [← hY0, ← hY1, ← hY2, ← hY3, ← HV.out, Hq.out, ← Hws.out]
                            exact word_at M at_ q (by omega) aq
                          have j0 : IntKind.i64.wrap (4 * (q : Int)) = 4 * (q : Int) := IntWalk.i64_in _ (by omega)
                          have j1 : IntKind.i64.wrap ((at_ : Int) + 4 * (q : Int)) = (at_ : Int) + 4 * (q : Int) := IntWalk.i64_in _ (by omega)
                          have j2 : IntKind.i64.wrap ((at_ : Int) + 4 * (q : Int) + 1) = (at_ : Int) + 4 * (q : Int) + 1 := IntWalk.i64_in _ (by omega)
                          have j3 : IntKind.i64.wrap ((at_ : Int) + 4 * (q : Int) + 2) = (at_ : Int) + 4 * (q : Int) + 2 := IntWalk.i64_in _ (by omega)
                          have j4 : IntKind.i64.wrap ((at_ : Int) + 4 * (q : Int) + 3) = (at_ : Int) + 4 * (q : Int) + 3 := IntWalk.i64_in _ (by omega)
                          have t1 : ((at_ : Int) + 4 * (q : Int)).toNat = at_ + 4 * q := by omega
                          have t2 : ((at_ : Int) + 4 * (q : Int) + 1).toNat = at_ + 4 * q + 1 := by omega
                          have t3 : ((at_ : Int) + 4 * (q : Int) + 2).toNat = at_ + 4 * q + 2 := by omega
                          have t4 : ((at_ : Int) + 4 * (q : Int) + 3).toNat = at_ + 4 * q + 3 := by omega
                          have n1 : (0 : Int) ≤ (at_ : Int) + 4 * (q : Int) := by omega
                          have n2 : (0 : Int) ≤ (at_ : Int) + 4 * (q : Int) + 1 := by omega
                          have n3 : (0 : Int) ≤ (at_ : Int) + 4 * (q : Int) + 2 := by omega
                          have n4 : (0 : Int) ≤ (at_ : Int) + 4 * (q : Int) + 3 := by omega
                          have l1 : (at_ : Int) + 4 * (q : Int) < M.length := by omega
                          have l2 : (at_ : Int) + 4 * (q : Int) + 1 < M.length := by omega
                          have l3 : (at_ : Int) + 4 * (q : Int) + 2 < M.length := by omega
                          have l4 : (at_ : Int) + 4 * (q : Int) + 3 < M.length := by omega
                          have v0 : wrap64 Y0 = Y0 := IntWalk.wrap64_in _ (by omega)
                          have v1 : wrap64 Y1 = Y1 := IntWalk.wrap64_in _ (by omega)
                          have v2 : wrap64 Y2 = Y2 := IntWalk.wrap64_in _ (by omega)
                          have v3 : wrap64 Y3 = Y3 := IntWalk.wrap64_in _ (by omega)
                          have m1 : wrap64 (Y1 * 256) = Y1 * 256 := IntWalk.wrap64_in _ (by omega)
                          have m2 : wrap64 (Y2 * 65536) = Y2 * 65536 := IntWalk.wrap64_in _ (by omega)
                          have m3 : wrap64 (Y3 * 16777216) = Y3 * 16777216 := IntWalk.wrap64_in _ (by omega)
                          have a1 : wrap64 (Y0 + Y1 * 256) = Y0 + Y1 * 256 := IntWalk.wrap64_in _ (by omega)
                          have a2 : wrap64 (Y0 + Y1 * 256 + Y2 * 65536) = Y0 + Y1 * 256 + Y2 * 65536 := IntWalk.wrap64_in _ (by omega)
                          have a3 : wrap64 (Y0 + Y1 * 256 + Y2 * 65536 + Y3 * 16777216) = V := by rw [hVy]; exact IntWalk.wrap64_in _ (by omega)
                          have HVy := Lib.hid hVy
                          clear y0 y1 y2 y3 hVy
                          go_wp2
                          go_quiet (fail)
                          all_goals go_wp2_with fail
                          refine (rturn_i _ TN _ (Int.emod_nonneg _ (by omega)) (Int.emod_lt_of_pos _ (by omega)) TN0 TN1).mono ?_
                          have hrb := rotI_bd TN ((F + A + TB + V) % 4294967296) (Int.emod_nonneg _ (by omega)) (Int.emod_lt_of_pos _ (by omega))
                          have hst := rstep_val ws i u Huok.out A B' C D F V TB TN HA.out HB.out HC.out HD.out HV.out HFm.out HTB.out HTN.out
                          obtain ⟨RT, hRT⟩ : ∃ x, rotI TN ((F + A + TB + V) % 4294967296) = x := ⟨_, rfl⟩
                          rw [hRT] at hrb hst ⊢
                          obtain ⟨rt0, rt1⟩ := hrb
                          have HRT := Lib.hid hRT
                          have Hst := Lib.hid hst
                          clear hRT hst
                          rintro e w1 ⟨rfl, rfl⟩
                          clear hY0 hY1 hY2 hY3 j0 j1 j2 j3 j4 t1 t2 t3 t4 v0 v1 v2 v3 m1 m2 m3 a1 a2 a3 hf
                          go_wp2
                          go_roundw
                          case rel =>
                            refine ⟨i + 1, by omega, by go_num, ?_, ?_, ?_, ?_, hS.drewN nq, hT1.drewN nq, hT2.drewN nq, hB.drewN nq, hF.drewN nq⟩
                            · rw [Hnx.out, ← HD.out]; rfl
                            · rw [Hnx.out, Hst.out]; rfl
                            · rw [Hnx.out, ← HB.out]; rfl
                            · rw [Hnx.out, ← HC.out]; rfl
                          case measure => (simp [intOf]) <;> omega
                      · have hq0 : ((i : Int) / 16 == 0) = false := by rw [beq_eq_false_iff_ne]; omega
                        have hq1 : ((i : Int) / 16 == 1) = false := by rw [beq_eq_false_iff_ne]; omega
                        have hq2 : ((i : Int) / 16 == 2) = false := by rw [beq_eq_false_iff_ne]; omega
                        have hf := fmix_3 i B' C D F h16 h32 h48 B0' B1 C0' C1 D0' D1 HFm.out
                        have hkq : 7 * (i : Int) % 16 = (q : Int) := by rw [← Hq.out]; unfold mixK; rw [if_neg h16, if_neg h32, if_neg h48]; omega
                        as_aux_lemma =>
                          have hb16 : (i : Int) / 16 * 4 + (i : Int) % 4 < 16 := by omega
                          have hb17 : 0 ≤ (i : Int) / 16 * 4 + (i : Int) % 4 := by omega
                          have aq : at_ + 4 * q + 3 < M.length := by omega
                          obtain ⟨Y0, hY0⟩ : ∃ x : Int, ((M[at_ + 4 * q]'(by omega)).toNat : Int) = x := ⟨_, rfl⟩
                          obtain ⟨Y1, hY1⟩ : ∃ x : Int, ((M[at_ + 4 * q + 1]'(by omega)).toNat : Int) = x := ⟨_, rfl⟩
                          obtain ⟨Y2, hY2⟩ : ∃ x : Int, ((M[at_ + 4 * q + 2]'(by omega)).toNat : Int) = x := ⟨_, rfl⟩
                          obtain ⟨Y3, hY3⟩ : ∃ x : Int, ((M[at_ + 4 * q + 3]'(by omega)).toNat : Int) = x := ⟨_, rfl⟩
                          have y0 : 0 ≤ Y0 ∧ Y0 < 256 := by rw [← hY0]; exact ⟨by omega, byte_bd _⟩
                          have y1 : 0 ≤ Y1 ∧ Y1 < 256 := by rw [← hY1]; exact ⟨by omega, byte_bd _⟩
                          have y2 : 0 ≤ Y2 ∧ Y2 < 256 := by rw [← hY2]; exact ⟨by omega, byte_bd _⟩
                          have y3 : 0 ≤ Y3 ∧ Y3 < 256 := by rw [← hY3]; exact ⟨by omega, byte_bd _⟩
                          have hVy : Y0 + Y1 * 256 + Y2 * 65536 + Y3 * 16777216 = V := by
                            rw [← hY0, ← hY1, ← hY2, ← hY3, ← HV.out, Hq.out, ← Hws.out]
                            exact word_at M at_ q (by omega) aq
                          have j0 : IntKind.i64.wrap (4 * (q : Int)) = 4 * (q : Int) := IntWalk.i64_in _ (by omega)
                          have j1 : IntKind.i64.wrap ((at_ : Int) + 4 * (q : Int)) = (at_ : Int) + 4 * (q : Int) := IntWalk.i64_in _ (by omega)
                          have j2 : IntKind.i64.wrap ((at_ : Int) + 4 * (q : Int) + 1) = (at_ : Int) + 4 * (q : Int) + 1 := IntWalk.i64_in _ (by omega)
                          have j3 : IntKind.i64.wrap ((at_ : Int) + 4 * (q : Int) + 2) = (at_ : Int) + 4 * (q : Int) + 2 := IntWalk.i64_in _ (by omega)
                          have j4 : IntKind.i64.wrap ((at_ : Int) + 4 * (q : Int) + 3) = (at_ : Int) + 4 * (q : Int) + 3 := IntWalk.i64_in _ (by omega)
                          have t1 : ((at_ : Int) + 4 * (q : Int)).toNat = at_ + 4 * q := by omega
                          have t2 : ((at_ : Int) + 4 * (q : Int) + 1).toNat = at_ + 4 * q + 1 := by omega
                          have t3 : ((at_ : Int) + 4 * (q : Int) + 2).toNat = at_ + 4 * q + 2 := by omega
                          have t4 : ((at_ : Int) + 4 * (q : Int) + 3).toNat = at_ + 4 * q + 3 := by omega
                          have n1 : (0 : Int) ≤ (at_ : Int) + 4 * (q : Int) := by omega
                          have n2 : (0 : Int) ≤ (at_ : Int) + 4 * (q : Int) + 1 := by omega
                          have n3 : (0 : Int) ≤ (at_ : Int) + 4 * (q : Int) + 2 := by omega
                          have n4 : (0 : Int) ≤ (at_ : Int) + 4 * (q : Int) + 3 := by omega
                          have l1 : (at_ : Int) + 4 * (q : Int) < M.length := by omega
                          have l2 : (at_ : Int) + 4 * (q : Int) + 1 < M.length := by omega
                          have l3 : (at_ : Int) + 4 * (q : Int) + 2 < M.length := by omega
                          have l4 : (at_ : Int) + 4 * (q : Int) + 3 < M.length := by omega
                          have v0 : wrap64 Y0 = Y0 := IntWalk.wrap64_in _ (by omega)
                          have v1 : wrap64 Y1 = Y1 := IntWalk.wrap64_in _ (by omega)
                          have v2 : wrap64 Y2 = Y2 := IntWalk.wrap64_in _ (by omega)
                          have v3 : wrap64 Y3 = Y3 := IntWalk.wrap64_in _ (by omega)
                          have m1 : wrap64 (Y1 * 256) = Y1 * 256 := IntWalk.wrap64_in _ (by omega)
                          have m2 : wrap64 (Y2 * 65536) = Y2 * 65536 := IntWalk.wrap64_in _ (by omega)
                          have m3 : wrap64 (Y3 * 16777216) = Y3 * 16777216 := IntWalk.wrap64_in _ (by omega)
                          have a1 : wrap64 (Y0 + Y1 * 256) = Y0 + Y1 * 256 := IntWalk.wrap64_in _ (by omega)
                          have a2 : wrap64 (Y0 + Y1 * 256 + Y2 * 65536) = Y0 + Y1 * 256 + Y2 * 65536 := IntWalk.wrap64_in _ (by omega)
                          have a3 : wrap64 (Y0 + Y1 * 256 + Y2 * 65536 + Y3 * 16777216) = V := by rw [hVy]; exact IntWalk.wrap64_in _ (by omega)
                          have HVy := Lib.hid hVy
                          clear y0 y1 y2 y3 hVy
                          go_wp2
                          go_quiet (fail)
                          all_goals go_wp2_with fail
                          refine (rturn_i _ TN _ (Int.emod_nonneg _ (by omega)) (Int.emod_lt_of_pos _ (by omega)) TN0 TN1).mono ?_
                          have hrb := rotI_bd TN ((F + A + TB + V) % 4294967296) (Int.emod_nonneg _ (by omega)) (Int.emod_lt_of_pos _ (by omega))
                          have hst := rstep_val ws i u Huok.out A B' C D F V TB TN HA.out HB.out HC.out HD.out HV.out HFm.out HTB.out HTN.out
                          obtain ⟨RT, hRT⟩ : ∃ x, rotI TN ((F + A + TB + V) % 4294967296) = x := ⟨_, rfl⟩
                          rw [hRT] at hrb hst ⊢
                          obtain ⟨rt0, rt1⟩ := hrb
                          have HRT := Lib.hid hRT
                          have Hst := Lib.hid hst
                          clear hRT hst
                          rintro e w1 ⟨rfl, rfl⟩
                          clear hY0 hY1 hY2 hY3 j0 j1 j2 j3 j4 t1 t2 t3 t4 v0 v1 v2 v3 m1 m2 m3 a1 a2 a3 hf
                          go_wp2
                          go_roundw
                          case rel =>
                            refine ⟨i + 1, by omega, by go_num, ?_, ?_, ?_, ?_, hS.drewN nq, hT1.drewN nq, hT2.drewN nq, hB.drewN nq, hF.drewN nq⟩
                            · rw [Hnx.out, ← HD.out]; rfl
                            · rw [Hnx.out, Hst.out]; rfl
                            · rw [Hnx.out, ← HB.out]; rfl
                            · rw [Hnx.out, ← HC.out]; rfl
                          case measure => (simp [intOf]) <;> omega
                · as_aux_lemma =>
                  have i64 : i = 64 := by omega
                  obtain ⟨a0, b0, c0, d0⟩ := Hab.out
                  have hS' : Blk wr wp.heap.size #[.int .i64 A0, .int .i64 B0, .int .i64 C0, .int .i64 D0] 415 := by rw [← a0, ← b0, ← c0, ← d0]; exact hS
                  have okt := Hok.out
                  have z0 : 0 ≤ A0 ∧ A0 < 4294967296 := by have := okt.a; omega
                  have z1 : 0 ≤ B0 ∧ B0 < 4294967296 := by have := okt.b; omega
                  have z2 : 0 ≤ C0 ∧ C0 < 4294967296 := by have := okt.c; omega
                  have z3 : 0 ≤ D0 ∧ D0 < 4294967296 := by have := okt.d; omega
                  obtain ⟨z00, z01⟩ := z0
                  obtain ⟨z10, z11⟩ := z1
                  obtain ⟨z20, z21⟩ := z2
                  obtain ⟨z30, z31⟩ := z3
                  have k4 := fc4 hS'
                  have ea : (A0 + A) % 4294967296 = ((onS t ws).a : Nat) := by show _ = (((t.a + (stepsS ws t 64).a) % 4294967296 : Nat) : Int); rw [← i64, Hu.out, ← a0, ← HA.out]; omega
                  have eb : (B0 + B') % 4294967296 = ((onS t ws).b : Nat) := by show _ = (((t.b + (stepsS ws t 64).b) % 4294967296 : Nat) : Int); rw [← i64, Hu.out, ← b0, ← HB.out]; omega
                  have ec : (C0 + C) % 4294967296 = ((onS t ws).c : Nat) := by show _ = (((t.c + (stepsS ws t 64).c) % 4294967296 : Nat) : Int); rw [← i64, Hu.out, ← c0, ← HC.out]; omega
                  have ed : (D0 + D) % 4294967296 = ((onS t ws).d : Nat) := by show _ = (((t.d + (stepsS ws t 64).d) % 4294967296 : Nat) : Int); rw [← i64, Hu.out, ← d0, ← HD.out]; omega
                  have Ee := Lib.hid (And.intro ea (And.intro eb (And.intro ec ed)))
                  clear ea eb ec ed a0 b0 c0 d0 i64 okt
                  go_wp2
                  go_roundw
                  case rel =>
                    obtain ⟨ea, eb, ec, ed⟩ := Ee.out
                    have hat := Hat.out
                    refine ⟨m + 1, by omega, by congr 1; omega, ?_, ?_, ?_, ?_, ?_⟩
                    · rw [Hn.out, Hws.out]
                      show Blk _ _ #[.int .i64 ((onS t ws).a : Int), .int .i64 ((onS t ws).b : Int), .int .i64 ((onS t ws).c : Int), .int .i64 ((onS t ws).d : Int)] _
                      rw [← ea, ← eb, ← ec, ← ed]
                      exact st4 hS' _ _ _ _
                    · exact (((hT1.set_other _ (by simp; omega) _).set_other _ (by simp; omega) _).set_other _ (by simp; omega) _).set_other _ (by simp; omega) _
                    · exact (((hT2.set_other _ (by simp; omega) _).set_other _ (by simp; omega) _).set_other _ (by simp; omega) _).set_other _ (by simp; omega) _
                    · exact (((hB.set_other _ (by simp; omega) _).set_other _ (by simp; omega) _).set_other _ (by simp; omega) _).set_other _ (by simp; omega) _
                    · exact (((hF.setNew (by simp; omega) _).setNew (by simp; omega) _).setNew (by simp; omega) _).setNew (by simp; omega) _
                  case measure => (simp [intOf]) <;> omega
            · as_aux_lemma =>
              have hfin : 64 * m = M.length := by omega
              have hm' : t = md5S l := by rw [← ht]; unfold md5S; rw [HM.out, show M.length / 64 = m from by omega]
              have Hmd := Lib.hid hm'
              have Hok := Lib.hid ok
              have gS := hS.lt
              obtain ⟨av, hav⟩ : ∃ av : Nat, 64 * m = av := ⟨_, rfl⟩
              rw [hav] at hlt ⊢
              clear hm' hfin ht hnext ok hm p64 plen plt hav
              go_wp2
              obtain ⟨wq, rfl⟩ : ∃ wq : World, wq = wr := ⟨_, rfl⟩
              have hz := outC_zero t
              go_loopw [19] (fun cv wr => ∃ i : Nat, i ≤ 16 ∧ cv = .int .i64 i ∧ Blk wr wq.heap.size (outC t i) 381 ∧ Blk wr wp.heap.size (stI t) 415 ∧ Blk wr w.heap.size R 381 ∧ Fr [] w wr) (fun cv _ => 16 - (intOf cv).toNat)
              case atStart =>
                rw [← hz]
                exact ⟨0, by omega, rfl, Blk.new _ _ _, hS.alloc _, hB.alloc _, hF.alloc _⟩
              case round =>
                clear hS hB hF hz hT1 hT2
                obtain ⟨i, hi', rfl, hO, hS, hB, hF⟩ := hrel
                by_cases hlt : i < 16
                · have hc := hS.c (i / 4) _ (stI_get t (i / 4) (by omega))
                  have hO1 := hO.c i _ (outC_get t i i hlt)
                  have hO2 := hO.fz i
                  obtain ⟨X, hX⟩ : ∃ X : Int, ((t.get (i / 4) : Nat) : Int) = X := ⟨_, rfl⟩
                  have hb := St.get_lt Hok.out (i / 4)
                  have x0 : 0 ≤ X := by omega
                  have x1 : X < 4294967296 := by omega
                  rw [hX] at hc
                  have HX := Lib.hid hX
                  clear hX hb
                  go_wp2
                  go_roundw
                  case rel =>
                    have e : X / 2 ^ (8 * (i % 4)) % 256 = ((outAt t i : Nat) : Int) := by
                      unfold outAt
                      rw [← HX.out, show (256 : Nat) ^ (i % 4) = 2 ^ (8 * (i % 4)) from by rw [Nat.pow_mul]]
                      simp
                    rw [e]
                    exact ⟨i + 1, by omega, by go_num, by have := hO.set i (.int .u8 ((outAt t i : Nat) : Int)); rw [outC_next t i hlt] at this; exact this, hS.set_other _ (by simp; omega) _, hB.set_other _ (by simp; omega) _, hF.setNew (by simp; omega) _⟩
                  case measure => (simp [intOf]) <;> omega
                · have h16 : i = 16 := by omega
                  have rs : R.size = 16 := by rw [HR.out]; rfl
                  have hO' : Blk wr wq.heap.size (arr8 (md5 l)) 381 := by
                    have := hO; rw [h16, outC_end, Hmd.out] at this; exact this
                  clear hO h16
                  have ws : (arr8 (md5 l)).size = 16 := by rw [arr8_size, md5_length]
                  have w1 : (arr8 (md5 l)).all (·.oneCell') = true := arr8_one _
                  obtain ⟨W, hW⟩ : ∃ W, arr8 (md5 l) = W := ⟨_, rfl⟩
                  rw [hW] at hO' ws w1
                  have HW := Lib.hid hW
                  clear hW
                  go_wp2_with (first | (refine wpList_load_blk rfl 381 (.tmp 18) rfl wq.heap.size 381 W _ hO' rfl Tryz.underlying381 rfl (by rw [ws]; exact info16b) ?_) | (refine wpList_store_blk rfl 381 (.tmp 2) (.tmp 215) rfl w.heap.size 381 R W hB rfl rfl (by rw [ws, rs]) (by rw [ws]; exact info16b) w1 ?_; intro w' hw' hB'))
                  refine ret_cell1 2 381 rfl w.heap.size 381 W _ hB' rfl Tryz.underlying381 rfl (by rw [ws]; exact info16b) rfl ⟨by rw [HW.out], ?_⟩
                  rw [hw'.out]
                  exact hF.setCells _ _ _ (Or.inl (Nat.le_refl _))
end Go.Proofs.YtfchbppfbepelaaGreat
