/- HostPlays (printed by tools/gen_lawhp.py). -/
import Derived.Test.YtfchbppfbepelaaGreatHpT
import Derived.Test.YtfchbppfbepelaaGreatHpR
import Derived.Test.YtfchbppfbepelaaGreatDHoE
import Derived.Test.YtfchbppfbepelaaGreatDHoC
import Derived.Test.YtfchbppfbepelaaGreatAlive8
import Derived.OpenShut
import Derived.WideShapes
import Derived.Below
import Derived.Deep.DeepCutAuto
import Derived.Deep.CutBlock
namespace Go.Proofs.YtfchbppfbepelaaGreat
open Go.ChangeShapes Go.WideShapes Go.ChangeAt Go.RowKit Go.Deep Go.Maps
set_option linter.unusedVariables false
theorem sum_w64 (a b : Nat) (h1 : a ≤ 140737488351232) (h2 : b ≤ 140737488351232) : wrap64 ((a : Int) + b) = (a : Int) + b ∧ IntKind.i64.wrap ((a : Int) + b) = (a : Int) + b := by
  constructor
  · unfold wrap64; omega
  · rw [IntKind.wrap_i64]; omega
set_option maxRecDepth 100000 in
set_option maxHeartbeats 40000000 in
theorem hostPlays_walk (w : World) (m : Mc) (hm : True) (sv : ByteArray) (ssv : sv.size ≤ 140737488351232) (un : ByteArray) (sun : un.size ≤ 140737488351232) (rt : Int) (r0 : -9223372036854775808 ≤ rt) (r1 : rt ≤ 9223372036854775807) (wt : Int) (t0 : -9223372036854775808 ≤ wt) (t1 : wt ≤ 9223372036854775807) (a : Option Addr) (len cap : Nat) (l : List HOp) (hR : RowsAt w a len cap 16 hopL HopOk l) :
    Calls Tryz.prog 6 #[.agg (mcL m).toArray, .string sv, .string un, .int .i64 rt, .int .i64 wt, .slice a len cap] w fun e w' => e = .returned (.bool true) ∧ Below w.heap.size w w' := by
  obtain ⟨sv, rfl⟩ : ∃ l, sv = B l := ⟨_, B_of sv⟩
  obtain ⟨un, rfl⟩ : ∃ l, un = B l := ⟨_, B_of un⟩
  rw [B_size] at ssv sun
  have AL := Lib.hid fun W => alive8 W
  have HRW := Lib.hid hR
  have hlm : len ≤ maxLen := Nat.le_trans hR.2.1 hR.2.2.1
  unfold maxLen at hlm
  have NE := Lib.hid fun W hE => hnew_err (w := W) m sv un rt wt hE
  have DE := Lib.hid fun W hE => dhNew_err (w := W) m sv un rt wt hE
  have NK := Lib.hid fun W h1 h2 h3 h4 h5 h6 => hnew_ok (w := W) m sv un rt wt h1 h2 h3 h4 h5 h6
  have DK := Lib.hid fun W h1 h2 h3 h4 h5 h6 => dhNew_ok (w := W) m sv un rt wt h1 h2 h3 h4 h5 h6
  have HRN := Lib.hid (HR.new m sv un rt wt)
  have HTN := Lib.hid (HT.new m sv un rt wt)
  have HIN := Lib.hid (HI.new m sv un rt wt)
  obtain ⟨h0, hh0⟩ : ∃ h, hs0 m sv un rt wt = h := ⟨_, rfl⟩
  obtain ⟨d0', hd0'⟩ : ∃ h, dh0 m sv un rt wt = h := ⟨_, rfl⟩
  rw [hh0] at NK HRN HTN HIN
  rw [hd0'] at DK HRN
  obtain ⟨m1, m2, m3, m4, m5, m6⟩ := m
  unfold mcL at NE DE NK DK ⊢
  simp only at NE DE NK DK ⊢
  have hF0 := (Fr.refl [] w).alloc (.cells #[.int .u8 m1, .int .u8 m2, .int .u8 m3, .int .u8 m4, .int .u8 m5, .int .u8 m6] 104 (0, 0))
  have hN0 := Blk.new w #[.int .u8 m1, .int .u8 m2, .int .u8 m3, .int .u8 m4, .int .u8 m5, .int .u8 m6] 104
  clear hR hm hh0 hd0'
  go_enter Tryz.func6, Tryz.ntmps6
  by_cases h200 : (200 : Int) < len
  · go_wp2_with fail
    refine (AL.out _).mono ?_
    rintro e w3 ⟨rfl, hF3⟩
    have HF := Lib.hid (hF0.trans hF3)
    clear hF3
    go_wp2_with fail
    go_ret
    exact ⟨rfl, HF.out.below (Nat.le_refl _) (by simp)⟩
  by_cases h300 : (300 : Int) < (sv.length : Int) + un.length
  · go_wp2_with fail
    refine (AL.out _).mono ?_
    rintro e w3 ⟨rfl, hF3⟩
    have HF := Lib.hid (hF0.trans hF3)
    clear hF3
    go_wp2_with fail
    go_ret
    exact ⟨rfl, HF.out.below (Nat.le_refl _) (by simp)⟩
  by_cases hbad : 40 < sv.length ∨ 40 < un.length ∨ rt < 0 ∨ 10 < rt ∨ wt < 1 ∨ 100 < wt
  · have NE2 := Lib.hid fun W => NE.out W hbad
    have DE2 := Lib.hid fun W => DE.out W hbad
    clear hbad NE DE NK DK HRN HTN HIN
    go_wp2_with fail
    refine (NE2.out _).mono ?_
    rintro e w1 ⟨rfl, hF1⟩
    have hb := hF1.blk hN0 (by simp)
    have y0 : w1.cell? ⟨w.heap.size, 0, none⟩ = some (.int .u8 m1) := hb.c 0 _ rfl
    have y1 : w1.cell? ⟨w.heap.size, 1, none⟩ = some (.int .u8 m2) := hb.c 1 _ rfl
    have y2 : w1.cell? ⟨w.heap.size, 2, none⟩ = some (.int .u8 m3) := hb.c 2 _ rfl
    have y3 : w1.cell? ⟨w.heap.size, 3, none⟩ = some (.int .u8 m4) := hb.c 3 _ rfl
    have y4 : w1.cell? ⟨w.heap.size, 4, none⟩ = some (.int .u8 m5) := hb.c 4 _ rfl
    have y5 : w1.cell? ⟨w.heap.size, 5, none⟩ = some (.int .u8 m6) := hb.c 5 _ rfl
    have HF1 := Lib.hid (hF0.trans hF1)
    clear hF1 hb hN0
    go_wp2_with fail
    refine (DE2.out _).mono ?_
    rintro e w2 ⟨rfl, hF2⟩
    have HF2 := Lib.hid (HF1.out.trans hF2)
    clear hF2 y0 y1 y2 y3 y4 y5
    go_wp2_with fail
    refine (AL.out _).mono ?_
    rintro e w3 ⟨rfl, hF3⟩
    have HF := Lib.hid (HF2.out.trans hF3)
    clear hF3
    go_wp2_with fail
    go_ret
    exact ⟨rfl, HF.out.below (Nat.le_refl _) (by simp)⟩
  have hg : sv.length ≤ 40 ∧ un.length ≤ 40 ∧ 0 ≤ rt ∧ rt ≤ 10 ∧ 1 ≤ wt ∧ wt ≤ 100 := by omega
  have NK2 := Lib.hid fun W => NK.out W hg.1 hg.2.1 hg.2.2.1 hg.2.2.2.1 hg.2.2.2.2.1 hg.2.2.2.2.2
  have DK2 := Lib.hid fun W => DK.out W hg.1 hg.2.1 hg.2.2.1 hg.2.2.2.1 hg.2.2.2.2.1 hg.2.2.2.2.2
  have HIK := Lib.hid (HIN.out hg.1 hg.2.1 hg.2.2.1 hg.2.2.2.1 hg.2.2.2.2.1 hg.2.2.2.2.2)
  clear hbad hg NE DE NK DK HIN
  go_wp2_with fail
  refine (NK2.out _).mono ?_
  rintro e w1 ⟨c, rfl, hcs, hcB, hF1⟩
  have hb := hF1.blk hN0 (by simp)
  have y0 : w1.cell? ⟨w.heap.size, 0, none⟩ = some (.int .u8 m1) := hb.c 0 _ rfl
  have y1 : w1.cell? ⟨w.heap.size, 1, none⟩ = some (.int .u8 m2) := hb.c 1 _ rfl
  have y2 : w1.cell? ⟨w.heap.size, 2, none⟩ = some (.int .u8 m3) := hb.c 2 _ rfl
  have y3 : w1.cell? ⟨w.heap.size, 3, none⟩ = some (.int .u8 m4) := hb.c 3 _ rfl
  have y4 : w1.cell? ⟨w.heap.size, 4, none⟩ = some (.int .u8 m5) := hb.c 4 _ rfl
  have y5 : w1.cell? ⟨w.heap.size, 5, none⟩ = some (.int .u8 m6) := hb.c 5 _ rfl
  have hcw : w.heap.size ≤ c := Nat.le_trans hF0.size hcs
  have HF1 := Lib.hid (hF0.trans hF1)
  have HCB := Lib.hid hcB
  clear hF1 hb hN0 hcs hcB NK2
  go_wp2_with fail
  refine (DK2.out _).mono ?_
  rintro e w2 ⟨g, rfl, hgs, hgB, hF2⟩
  have hgw : w.heap.size ≤ g := Nat.le_trans HF1.out.size hgs
  have HF2 := Lib.hid (HF1.out.trans hF2)
  have HPP : Hid (HPs w w2.heap.size c g (h0, none) d0' [] (w2.alloc (.cells #[.slice none 0 0, .slice none 0 0, .slice none 0 0, .slice none 0 0, .slice none 0 0, .slice none 0 0, .slice none 0 0, .slice none 0 0, .slice none 0 0, .slice none 0 0, .slice none 0 0, .slice none 0 0, .slice none 0 0, .slice none 0 0, .slice none 0 0, .slice none 0 0, .slice none 0 0, .slice none 0 0, .slice none 0 0, .slice none 0 0, .slice none 0 0, .slice none 0 0, .slice none 0 0, .slice none 0 0, .slice none 0 0, .slice none 0 0, .slice none 0 0, .slice none 0 0, .slice none 0 0, .slice none 0 0, .slice none 0 0, .slice none 0 0, .slice none 0 0, .slice none 0 0, .slice none 0 0, .slice none 0 0] 52 (0, 0)))) := Lib.hid ⟨HRN.out, HIK.out, BkE.new w2 HF2.out.size, ⟨_, (hF2.trans ((Fr.refl [] w2).alloc _)).blk HCB.out (by simp), rfl⟩, ((Fr.refl [] w2).alloc _).blk hgB (by simp), HF2.out.alloc _, hcw, hgw⟩
  clear hF2 hgB hgs y0 y1 y2 y3 y4 y5 DK2 HIK HRN HCB HF1 hF0
  go_wp2_with (refine wpList_buildK rfl 52 #[] rfl #[.slice none 0 0, .slice none 0 0, .slice none 0 0, .slice none 0 0, .slice none 0 0, .slice none 0 0, .slice none 0 0, .slice none 0 0, .slice none 0 0, .slice none 0 0, .slice none 0 0, .slice none 0 0, .slice none 0 0, .slice none 0 0, .slice none 0 0, .slice none 0 0, .slice none 0 0, .slice none 0 0, .slice none 0 0, .slice none 0 0, .slice none 0 0, .slice none 0 0, .slice none 0 0, .slice none 0 0, .slice none 0 0, .slice none 0 0, .slice none 0 0, .slice none 0 0, .slice none 0 0, .slice none 0 0, .slice none 0 0, .slice none 0 0, .slice none 0 0, .slice none 0 0, .slice none 0 0, .slice none 0 0] (fun W => by kernel_rfl) ?_)
  obtain ⟨b, hb⟩ : ∃ b, w2.heap.size = b := ⟨_, rfl⟩
  rw [hb] at HPP ⊢
  clear hb HF2
  go_loopw [18] (fun iv wr => ∃ (j : Nat) (p : Ps) (d : Dh) (kp : List (Bl Eth)), j ≤ len ∧ iv = .int .i64 j ∧ HPs w b c g p d kp wr ∧ HT p) (fun iv _ => len - (intOf iv).toNat)
  case atStart => exact ⟨0, _, _, _, Nat.zero_le _, rfl, HPP.out, HTN.out⟩
  case round =>
    clear HPP HTN
    obtain ⟨j, p, d, kp, hj, rfl, hPP, hT⟩ := hrel
    have HP0 := Lib.hid hPP
    have HT0 := Lib.hid hT
    clear hPP hT
    by_cases hjl : j < len
    · obtain ⟨bb, off, ⟨kd, ⟨⟨k1, k2, k3, k4, k5, k6⟩, ⟨s1, s2, s3, s4, s5, s6⟩, ty, d0⟩, dt⟩, rfl, hbb, hx, hxV, hcell⟩ := HRW.out.at_ j hjl
      have hl := hcell wr HP0.out.fr
      have y0 : wr.cell? ⟨bb, off + j * 16, none⟩ = some (.int .i64 kd) := hl 0 _ rfl
      have y1 : wr.cell? ⟨bb, off + j * 16 + 1, none⟩ = some (.int .u8 k1) := hl 1 _ rfl
      have y2 : wr.cell? ⟨bb, off + j * 16 + 2, none⟩ = some (.int .u8 k2) := hl 2 _ rfl
      have y3 : wr.cell? ⟨bb, off + j * 16 + 3, none⟩ = some (.int .u8 k3) := hl 3 _ rfl
      have y4 : wr.cell? ⟨bb, off + j * 16 + 4, none⟩ = some (.int .u8 k4) := hl 4 _ rfl
      have y5 : wr.cell? ⟨bb, off + j * 16 + 5, none⟩ = some (.int .u8 k5) := hl 5 _ rfl
      have y6 : wr.cell? ⟨bb, off + j * 16 + 6, none⟩ = some (.int .u8 k6) := hl 6 _ rfl
      have y7 : wr.cell? ⟨bb, off + j * 16 + 7, none⟩ = some (.int .u8 s1) := hl 7 _ rfl
      have y8 : wr.cell? ⟨bb, off + j * 16 + 8, none⟩ = some (.int .u8 s2) := hl 8 _ rfl
      have y9 : wr.cell? ⟨bb, off + j * 16 + 9, none⟩ = some (.int .u8 s3) := hl 9 _ rfl
      have y10 : wr.cell? ⟨bb, off + j * 16 + 10, none⟩ = some (.int .u8 s4) := hl 10 _ rfl
      have y11 : wr.cell? ⟨bb, off + j * 16 + 11, none⟩ = some (.int .u8 s5) := hl 11 _ rfl
      have y12 : wr.cell? ⟨bb, off + j * 16 + 12, none⟩ = some (.int .u8 s6) := hl 12 _ rfl
      have y13 : wr.cell? ⟨bb, off + j * 16 + 13, none⟩ = some (.int .i64 ty) := hl 13 _ rfl
      have y14 : wr.cell? ⟨bb, off + j * 16 + 14, none⟩ = some (.string (B d0)) := hl 14 _ rfl
      have y15 : wr.cell? ⟨bb, off + j * 16 + 15, none⟩ = some (.string (B dt)) := hl 15 _ rfl
      have HXV := Lib.hid hxV
      clear hcell hx hxV hbb hl
      by_cases hlen : 3000 < d0.length + dt.length
      · have hlI : (3000 : Int) < (d0.length : Int) + dt.length := by omega
        have hlw := (sum_w64 d0.length dt.length HXV.out.1 HXV.out.2).1
        have hlw2 := (sum_w64 d0.length dt.length HXV.out.1 HXV.out.2).2
        have HZ := Lib.hid (HP0.out.fr.alloc (.cells #[.int .i64 kd, .int .u8 k1, .int .u8 k2, .int .u8 k3, .int .u8 k4, .int .u8 k5, .int .u8 k6, .int .u8 s1, .int .u8 s2, .int .u8 s3, .int .u8 s4, .int .u8 s5, .int .u8 s6, .int .i64 ty, .string (B d0), .string (B dt)] 115 (0, 0)))
        clear hlen
        go_wp2_with fail
        go_ret
        exact ⟨rfl, HZ.out.below (Nat.le_refl _) (by simp)⟩
      have hlI : ¬ (3000 : Int) < (d0.length : Int) + dt.length := by omega
      have HLD := Lib.hid (show d0.length ≤ 3000 from by omega)
      have HLT := Lib.hid (show dt.length ≤ 3000 from by omega)
      clear hlen
      go_upto_block 2 with fail
      have hNO := Blk.new wr #[.int .i64 kd, .int .u8 k1, .int .u8 k2, .int .u8 k3, .int .u8 k4, .int .u8 k5, .int .u8 k6, .int .u8 s1, .int .u8 s2, .int .u8 s3, .int .u8 s4, .int .u8 s5, .int .u8 s6, .int .i64 ty, .string (B d0), .string (B dt)] 115
      have hA := (Fr.refl [] wr).alloc (.cells #[.int .i64 kd, .int .u8 k1, .int .u8 k2, .int .u8 k3, .int .u8 k4, .int .u8 k5, .int .u8 k6, .int .u8 s1, .int .u8 s2, .int .u8 s3, .int .u8 s4, .int .u8 s5, .int .u8 s6, .int .i64 ty, .string (B d0), .string (B dt)] 115 (0, 0))
      obtain ⟨W3, hW3⟩ : ∃ X, wr.alloc (.cells #[.int .i64 kd, .int .u8 k1, .int .u8 k2, .int .u8 k3, .int .u8 k4, .int .u8 k5, .int .u8 k6, .int .u8 s1, .int .u8 s2, .int .u8 s3, .int .u8 s4, .int .u8 s5, .int .u8 s6, .int .i64 ty, .string (B d0), .string (B dt)] 115 (0, 0)) = X := ⟨_, rfl⟩
      rw [hW3] at hNO hA ⊢
      obtain ⟨nO, hnO⟩ : ∃ q, wr.heap.size = q := ⟨_, rfl⟩
      rw [hnO] at hNO ⊢
      have HNO := Lib.hid hNO
      have HP3 := Lib.hid (HP0.out.fr0 hA)
      have HX : Hid (∀ W, Blk W nO #[.int .i64 kd, .int .u8 k1, .int .u8 k2, .int .u8 k3, .int .u8 k4, .int .u8 k5, .int .u8 k6, .int .u8 s1, .int .u8 s2, .int .u8 s3, .int .u8 s4, .int .u8 s5, .int .u8 s6, .int .i64 ty, .string (B d0), .string (B dt)] 115 → (fun W => (W.cell? ⟨nO, 1, none⟩ = some (.int .u8 k1) ∧ W.cell? ⟨nO, 2, none⟩ = some (.int .u8 k2) ∧ W.cell? ⟨nO, 3, none⟩ = some (.int .u8 k3) ∧ W.cell? ⟨nO, 4, none⟩ = some (.int .u8 k4) ∧ W.cell? ⟨nO, 5, none⟩ = some (.int .u8 k5) ∧ W.cell? ⟨nO, 6, none⟩ = some (.int .u8 k6) ∧ W.cell? ⟨nO, 7, none⟩ = some (.int .u8 s1) ∧ W.cell? ⟨nO, 8, none⟩ = some (.int .u8 s2) ∧ W.cell? ⟨nO, 9, none⟩ = some (.int .u8 s3) ∧ W.cell? ⟨nO, 10, none⟩ = some (.int .u8 s4) ∧ W.cell? ⟨nO, 11, none⟩ = some (.int .u8 s5) ∧ W.cell? ⟨nO, 12, none⟩ = some (.int .u8 s6) ∧ W.cell? ⟨nO, 13, none⟩ = some (.int .i64 ty) ∧ W.cell? ⟨nO, 14, none⟩ = some (.string (B d0))) ∧ Blk W nO #[.int .i64 kd, .int .u8 k1, .int .u8 k2, .int .u8 k3, .int .u8 k4, .int .u8 k5, .int .u8 k6, .int .u8 s1, .int .u8 s2, .int .u8 s3, .int .u8 s4, .int .u8 s5, .int .u8 s6, .int .i64 ty, .string (B d0), .string (B dt)] 115) W) := Lib.hid fun W h1 => ⟨⟨h1.c 1 _ rfl, h1.c 2 _ rfl, h1.c 3 _ rfl, h1.c 4 _ rfl, h1.c 5 _ rfl, h1.c 6 _ rfl, h1.c 7 _ rfl, h1.c 8 _ rfl, h1.c 9 _ rfl, h1.c 10 _ rfl, h1.c 11 _ rfl, h1.c 12 _ rfl, h1.c 13 _ rfl, h1.c 14 _ rfl⟩, h1⟩
      have HDI := Lib.hid (HP3.out.hr.di HP3.out.hi)
      clear hW3 hnO hNO hA HP0 hlI y0 y1 y2 y3 y4 y5 y6 y7 y8 y9 y10 y11 y12 y13 y14 y15
      go_cut [20, 21] (fun av bv wx => HCut w b c g nO #[.int .i64 kd, .int .u8 k1, .int .u8 k2, .int .u8 k3, .int .u8 k4, .int .u8 k5, .int .u8 k6, .int .u8 s1, .int .u8 s2, .int .u8 s3, .int .u8 s4, .int .u8 s5, .int .u8 s6, .int .i64 ty, .string (B d0), .string (B dt)] av bv wx)
      case first =>
        obtain ⟨⟨z1, z2, z3, z4, z5, z6, z7, z8, z9, z10, z11, z12, z13, z14⟩, _⟩ := HX.out _ HNO.out
        have z15 : W3.cell? ⟨nO, 15, none⟩ = some (.string (B dt)) := HNO.out.c 15 _ rfl
        by_cases hd : kd = 1
        · have hd1 : (kd == 1) = true := by simpa using hd
          clear hd
          as_aux_lemma =>
            go_wp2_with fail
            refine (HP3.out.pr.start HP3.out.hi).mono ?_
            rintro e w4 hP1
            have HP1 := Lib.hid hP1
            have hQ := HP3.out.prog hP1.1.choose_spec.choose_spec.2.2
            have HQ := Lib.hid hQ
            obtain ⟨⟨A1, c1, rfl, _, _⟩, _⟩ := hP1
            clear hQ
            go_wp2_with fail
            refine (dstart_any HDI.out HQ.out.2.1).mono ?_
            rintro e w5 hP2
            have HP2 := Lib.hid hP2
            obtain ⟨⟨A2, c2, rfl, _, _⟩, _⟩ := hP2
            have HE := Lib.hid (HPs.both HP3.out (pStart_len p) (HP3.out.hr.start) (HP3.out.hi.start) (HT0.out.start HP3.out.hi) HP1.out HP2.out nO #[.int .i64 kd, .int .u8 k1, .int .u8 k2, .int .u8 k3, .int .u8 k4, .int .u8 k5, .int .u8 k6, .int .u8 s1, .int .u8 s2, .int .u8 s3, .int .u8 s4, .int .u8 s5, .int .u8 s6, .int .i64 ty, .string (B d0), .string (B dt)] HNO.out)
            go_wp2_with fail
            go_meet
            exact HE.out
        have hd1 : (kd == 1) = false := by simpa using hd
        by_cases he : kd = 2
        · have hd2 : (kd == 2) = true := by simpa using he
          clear hd he
          as_aux_lemma =>
            go_wp2_with fail
            refine (HP3.out.pr.stop HP3.out.hi).mono ?_
            rintro e w4 hP1
            have HP1 := Lib.hid hP1
            have hQ := HP3.out.prog hP1.1.choose_spec.choose_spec.2.2
            have HQ := Lib.hid hQ
            obtain ⟨⟨A1, c1, rfl, _, _⟩, _⟩ := hP1
            clear hQ
            go_wp2_with fail
            refine (dstop_any HDI.out HQ.out.2.1).mono ?_
            rintro e w5 hP2
            have HP2 := Lib.hid hP2
            obtain ⟨⟨A2, c2, rfl, _, _⟩, _⟩ := hP2
            have HE := Lib.hid (HPs.both HP3.out (pStop_len p) (HP3.out.hr.stop) (HP3.out.hi.stop) (HT.stop HP3.out.hi) HP1.out HP2.out nO #[.int .i64 kd, .int .u8 k1, .int .u8 k2, .int .u8 k3, .int .u8 k4, .int .u8 k5, .int .u8 k6, .int .u8 s1, .int .u8 s2, .int .u8 s3, .int .u8 s4, .int .u8 s5, .int .u8 s6, .int .i64 ty, .string (B d0), .string (B dt)] HNO.out)
            go_wp2_with fail
            go_meet
            exact HE.out
        have hd2 : (kd == 2) = false := by simpa using he
        by_cases hf : kd = 3
        · have hd3 : (kd == 3) = true := by simpa using hf
          clear hd he hf
          as_aux_lemma =>
            go_wp2_with fail
            refine (HP3.out.pr.tick HP3.out.hi HP3.out.hr HT0.out).mono ?_
            rintro e w4 hP1
            have HP1 := Lib.hid hP1
            have hQ := HP3.out.prog hP1.1.choose_spec.choose_spec.2.2
            have HQ := Lib.hid hQ
            obtain ⟨⟨A1, c1, rfl, _, _⟩, _⟩ := hP1
            clear hQ
            go_wp2_with fail
            refine (dtick_any HDI.out HQ.out.2.1).mono ?_
            rintro e w5 hP2
            have HP2 := Lib.hid hP2
            obtain ⟨⟨A2, c2, rfl, _, _⟩, _⟩ := hP2
            have HE := Lib.hid (HPs.both HP3.out (pTick_len p) (HP3.out.hr.tick) (HP3.out.hi.tick) (HT0.out.tick HP3.out.hi) HP1.out HP2.out nO #[.int .i64 kd, .int .u8 k1, .int .u8 k2, .int .u8 k3, .int .u8 k4, .int .u8 k5, .int .u8 k6, .int .u8 s1, .int .u8 s2, .int .u8 s3, .int .u8 s4, .int .u8 s5, .int .u8 s6, .int .i64 ty, .string (B d0), .string (B dt)] HNO.out)
            go_wp2_with fail
            go_meet
            exact HE.out
        have hd3 : (kd == 3) = false := by simpa using hf
        by_cases hh : kd = 5
        · have hd5 : (kd == 5) = true := by simpa using hh
          clear hd he hf hh
          as_aux_lemma =>
            have DP := Lib.hid fun W (hW : Fr [] W3 W) => (HP3.out.fr0 hW).pr.data HP3.out.hi ⟨⟨k1, k2, k3, k4, k5, k6⟩, ⟨s1, s2, s3, s4, s5, s6⟩, ty, d0⟩ HLD.out
            have DD := Lib.hid fun W (hW : Fr [] W3 W) => ddata_any ⟨⟨k1, k2, k3, k4, k5, k6⟩, ⟨s1, s2, s3, s4, s5, s6⟩, ty, d0⟩ HLD.out (HP3.out.fr0 hW).dc
            rw [← HP3.out.hr.data (etT ⟨⟨k1, k2, k3, k4, k5, k6⟩, ⟨s1, s2, s3, s4, s5, s6⟩, ty, d0⟩)] at DD
            obtain ⟨⟨rs, rb⟩, hr⟩ : ∃ r, dataL p.1.st p.1.k p.1.m p.1.ss (etT ⟨⟨k1, k2, k3, k4, k5, k6⟩, ⟨s1, s2, s3, s4, s5, s6⟩, ty, d0⟩) = r := ⟨_, rfl⟩
            rw [hr] at DP DD
            unfold etC ethC at DP DD
            simp only at DP DD
            clear hr
            go_wp2_with fail
            refine (DP.out _ (Fr.refl _ _)).mono ?_
            rintro e w4 ⟨rfl, hF4⟩
            obtain ⟨⟨x1, x2, x3, x4, x5, x6, x7, x8, x9, x10, x11, x12, x13, x14⟩, _⟩ := HX.out _ (hF4.blk HNO.out (by simp))
            have HF4 := Lib.hid hF4
            clear hF4 DP
            go_wp2_with fail
            refine (DD.out _ HF4.out).mono ?_
            rintro e w5 ⟨rfl, hF5⟩
            have HE := Lib.hid (HPs.none_ (HP3.out.fr0 (HF4.out.trans hF5)) HT0.out nO #[.int .i64 kd, .int .u8 k1, .int .u8 k2, .int .u8 k3, .int .u8 k4, .int .u8 k5, .int .u8 k6, .int .u8 s1, .int .u8 s2, .int .u8 s3, .int .u8 s4, .int .u8 s5, .int .u8 s6, .int .i64 ty, .string (B d0), .string (B dt)] ((HF4.out.trans hF5).blk HNO.out (by simp)))
            have hn1 : (B rs != B rs) = false := by show (!((B rs).data == (B rs).data)) = false; rw [beq_self_eq_true]; rfl
            have hn2 : (rb != rb) = false := by cases rb <;> rfl
            clear hF5 DD
            go_wp2_with fail
            go_meet
            exact HE.out
        have hd5 : (kd == 5) = false := by simpa using hh
        by_cases hi : kd = 6
        · have hd6 : (kd == 6) = true := by simpa using hi
          clear hd he hf hh hi
          as_aux_lemma =>
            have DP := Lib.hid fun W (hW : Fr [] W3 W) => (HP3.out.fr0 hW).pr.frame HP3.out.hi dt HLT.out
            have DD := Lib.hid fun W (hW : Fr [] W3 W) => dframe_any HDI.out dt (HP3.out.fr0 hW).dc
            rw [← HP3.out.hr.frame dt] at DD
            obtain ⟨⟨⟨⟨i1, i2, i3, i4, i5, i6⟩, ⟨j1, j2, j3, j4, j5, j6⟩, rty, rd⟩, rc⟩, hr⟩ : ∃ r, framL p.1.st p.1.k p.1.m p.1.ss dt = r := ⟨_, rfl⟩
            rw [hr] at DP DD
            have heq := fun W => eq_eth ⟨i1, i2, i3, i4, i5, i6⟩ ⟨j1, j2, j3, j4, j5, j6⟩ rty rd ⟨i1, i2, i3, i4, i5, i6⟩ ⟨j1, j2, j3, j4, j5, j6⟩ rty rd W
            rw [ethEq_self] at heq
            unfold ethC at DP DD heq
            simp only at DP DD heq
            clear hr
            go_wp2_with fail
            refine (DP.out _ (Fr.refl _ _)).mono ?_
            rintro e w4 ⟨rfl, hF4⟩
            have hF4a := hF4.alloc (.cells #[.int .u8 i1, .int .u8 i2, .int .u8 i3, .int .u8 i4, .int .u8 i5, .int .u8 i6, .int .u8 j1, .int .u8 j2, .int .u8 j3, .int .u8 j4, .int .u8 j5, .int .u8 j6, .int .i64 rty, .string (B rd)] 113 (0, 0))
            have x15 : (w4.alloc (.cells #[.int .u8 i1, .int .u8 i2, .int .u8 i3, .int .u8 i4, .int .u8 i5, .int .u8 i6, .int .u8 j1, .int .u8 j2, .int .u8 j3, .int .u8 j4, .int .u8 j5, .int .u8 j6, .int .i64 rty, .string (B rd)] 113 (0, 0))).cell? ⟨nO, 15, none⟩ = some (.string (B dt)) := (hF4a.blk HNO.out (by simp)).c 15 _ rfl
            have HB4 := Lib.hid (Blk.new w4 #[.int .u8 i1, .int .u8 i2, .int .u8 i3, .int .u8 i4, .int .u8 i5, .int .u8 i6, .int .u8 j1, .int .u8 j2, .int .u8 j3, .int .u8 j4, .int .u8 j5, .int .u8 j6, .int .i64 rty, .string (B rd)] 113)
            have HF4 := Lib.hid hF4a
            clear hF4 hF4a DP
            go_wp2_with fail
            obtain ⟨qa, hqa⟩ : ∃ q, w4.heap.size = q := ⟨_, rfl⟩
            obtain ⟨v4, hv4⟩ : ∃ V, w4.alloc (.cells #[.int .u8 i1, .int .u8 i2, .int .u8 i3, .int .u8 i4, .int .u8 i5, .int .u8 i6, .int .u8 j1, .int .u8 j2, .int .u8 j3, .int .u8 j4, .int .u8 j5, .int .u8 j6, .int .i64 rty, .string (B rd)] 113 (0, 0)) = V := ⟨_, rfl⟩
            (try rw [hqa])
            (try rw [hv4])
            rw [hqa] at HB4
            rw [hv4] at HB4 HF4 x15
            clear hqa hv4
            refine (DD.out _ HF4.out).mono ?_
            rintro e w5 ⟨rfl, hF5⟩
            have hF5a := hF5.alloc (.cells #[.int .u8 i1, .int .u8 i2, .int .u8 i3, .int .u8 i4, .int .u8 i5, .int .u8 i6, .int .u8 j1, .int .u8 j2, .int .u8 j3, .int .u8 j4, .int .u8 j5, .int .u8 j6, .int .i64 rty, .string (B rd)] 113 (0, 0))
            have hb1 := hF5a.blk HB4.out (by simp)
            have hb2 := Blk.new w5 #[.int .u8 i1, .int .u8 i2, .int .u8 i3, .int .u8 i4, .int .u8 i5, .int .u8 i6, .int .u8 j1, .int .u8 j2, .int .u8 j3, .int .u8 j4, .int .u8 j5, .int .u8 j6, .int .i64 rty, .string (B rd)] 113
            have xa0 : (w5.alloc (.cells #[.int .u8 i1, .int .u8 i2, .int .u8 i3, .int .u8 i4, .int .u8 i5, .int .u8 i6, .int .u8 j1, .int .u8 j2, .int .u8 j3, .int .u8 j4, .int .u8 j5, .int .u8 j6, .int .i64 rty, .string (B rd)] 113 (0, 0))).cell? ⟨qa, 0, none⟩ = some (.int .u8 i1) := hb1.c 0 _ rfl
            have xa1 : (w5.alloc (.cells #[.int .u8 i1, .int .u8 i2, .int .u8 i3, .int .u8 i4, .int .u8 i5, .int .u8 i6, .int .u8 j1, .int .u8 j2, .int .u8 j3, .int .u8 j4, .int .u8 j5, .int .u8 j6, .int .i64 rty, .string (B rd)] 113 (0, 0))).cell? ⟨qa, 1, none⟩ = some (.int .u8 i2) := hb1.c 1 _ rfl
            have xa2 : (w5.alloc (.cells #[.int .u8 i1, .int .u8 i2, .int .u8 i3, .int .u8 i4, .int .u8 i5, .int .u8 i6, .int .u8 j1, .int .u8 j2, .int .u8 j3, .int .u8 j4, .int .u8 j5, .int .u8 j6, .int .i64 rty, .string (B rd)] 113 (0, 0))).cell? ⟨qa, 2, none⟩ = some (.int .u8 i3) := hb1.c 2 _ rfl
            have xa3 : (w5.alloc (.cells #[.int .u8 i1, .int .u8 i2, .int .u8 i3, .int .u8 i4, .int .u8 i5, .int .u8 i6, .int .u8 j1, .int .u8 j2, .int .u8 j3, .int .u8 j4, .int .u8 j5, .int .u8 j6, .int .i64 rty, .string (B rd)] 113 (0, 0))).cell? ⟨qa, 3, none⟩ = some (.int .u8 i4) := hb1.c 3 _ rfl
            have xa4 : (w5.alloc (.cells #[.int .u8 i1, .int .u8 i2, .int .u8 i3, .int .u8 i4, .int .u8 i5, .int .u8 i6, .int .u8 j1, .int .u8 j2, .int .u8 j3, .int .u8 j4, .int .u8 j5, .int .u8 j6, .int .i64 rty, .string (B rd)] 113 (0, 0))).cell? ⟨qa, 4, none⟩ = some (.int .u8 i5) := hb1.c 4 _ rfl
            have xa5 : (w5.alloc (.cells #[.int .u8 i1, .int .u8 i2, .int .u8 i3, .int .u8 i4, .int .u8 i5, .int .u8 i6, .int .u8 j1, .int .u8 j2, .int .u8 j3, .int .u8 j4, .int .u8 j5, .int .u8 j6, .int .i64 rty, .string (B rd)] 113 (0, 0))).cell? ⟨qa, 5, none⟩ = some (.int .u8 i6) := hb1.c 5 _ rfl
            have xa6 : (w5.alloc (.cells #[.int .u8 i1, .int .u8 i2, .int .u8 i3, .int .u8 i4, .int .u8 i5, .int .u8 i6, .int .u8 j1, .int .u8 j2, .int .u8 j3, .int .u8 j4, .int .u8 j5, .int .u8 j6, .int .i64 rty, .string (B rd)] 113 (0, 0))).cell? ⟨qa, 6, none⟩ = some (.int .u8 j1) := hb1.c 6 _ rfl
            have xa7 : (w5.alloc (.cells #[.int .u8 i1, .int .u8 i2, .int .u8 i3, .int .u8 i4, .int .u8 i5, .int .u8 i6, .int .u8 j1, .int .u8 j2, .int .u8 j3, .int .u8 j4, .int .u8 j5, .int .u8 j6, .int .i64 rty, .string (B rd)] 113 (0, 0))).cell? ⟨qa, 7, none⟩ = some (.int .u8 j2) := hb1.c 7 _ rfl
            have xa8 : (w5.alloc (.cells #[.int .u8 i1, .int .u8 i2, .int .u8 i3, .int .u8 i4, .int .u8 i5, .int .u8 i6, .int .u8 j1, .int .u8 j2, .int .u8 j3, .int .u8 j4, .int .u8 j5, .int .u8 j6, .int .i64 rty, .string (B rd)] 113 (0, 0))).cell? ⟨qa, 8, none⟩ = some (.int .u8 j3) := hb1.c 8 _ rfl
            have xa9 : (w5.alloc (.cells #[.int .u8 i1, .int .u8 i2, .int .u8 i3, .int .u8 i4, .int .u8 i5, .int .u8 i6, .int .u8 j1, .int .u8 j2, .int .u8 j3, .int .u8 j4, .int .u8 j5, .int .u8 j6, .int .i64 rty, .string (B rd)] 113 (0, 0))).cell? ⟨qa, 9, none⟩ = some (.int .u8 j4) := hb1.c 9 _ rfl
            have xa10 : (w5.alloc (.cells #[.int .u8 i1, .int .u8 i2, .int .u8 i3, .int .u8 i4, .int .u8 i5, .int .u8 i6, .int .u8 j1, .int .u8 j2, .int .u8 j3, .int .u8 j4, .int .u8 j5, .int .u8 j6, .int .i64 rty, .string (B rd)] 113 (0, 0))).cell? ⟨qa, 10, none⟩ = some (.int .u8 j5) := hb1.c 10 _ rfl
            have xa11 : (w5.alloc (.cells #[.int .u8 i1, .int .u8 i2, .int .u8 i3, .int .u8 i4, .int .u8 i5, .int .u8 i6, .int .u8 j1, .int .u8 j2, .int .u8 j3, .int .u8 j4, .int .u8 j5, .int .u8 j6, .int .i64 rty, .string (B rd)] 113 (0, 0))).cell? ⟨qa, 11, none⟩ = some (.int .u8 j6) := hb1.c 11 _ rfl
            have xa12 : (w5.alloc (.cells #[.int .u8 i1, .int .u8 i2, .int .u8 i3, .int .u8 i4, .int .u8 i5, .int .u8 i6, .int .u8 j1, .int .u8 j2, .int .u8 j3, .int .u8 j4, .int .u8 j5, .int .u8 j6, .int .i64 rty, .string (B rd)] 113 (0, 0))).cell? ⟨qa, 12, none⟩ = some (.int .i64 rty) := hb1.c 12 _ rfl
            have xa13 : (w5.alloc (.cells #[.int .u8 i1, .int .u8 i2, .int .u8 i3, .int .u8 i4, .int .u8 i5, .int .u8 i6, .int .u8 j1, .int .u8 j2, .int .u8 j3, .int .u8 j4, .int .u8 j5, .int .u8 j6, .int .i64 rty, .string (B rd)] 113 (0, 0))).cell? ⟨qa, 13, none⟩ = some (.string (B rd)) := hb1.c 13 _ rfl
            have xb0 : (w5.alloc (.cells #[.int .u8 i1, .int .u8 i2, .int .u8 i3, .int .u8 i4, .int .u8 i5, .int .u8 i6, .int .u8 j1, .int .u8 j2, .int .u8 j3, .int .u8 j4, .int .u8 j5, .int .u8 j6, .int .i64 rty, .string (B rd)] 113 (0, 0))).cell? ⟨w5.heap.size, 0, none⟩ = some (.int .u8 i1) := hb2.c 0 _ rfl
            have xb1 : (w5.alloc (.cells #[.int .u8 i1, .int .u8 i2, .int .u8 i3, .int .u8 i4, .int .u8 i5, .int .u8 i6, .int .u8 j1, .int .u8 j2, .int .u8 j3, .int .u8 j4, .int .u8 j5, .int .u8 j6, .int .i64 rty, .string (B rd)] 113 (0, 0))).cell? ⟨w5.heap.size, 1, none⟩ = some (.int .u8 i2) := hb2.c 1 _ rfl
            have xb2 : (w5.alloc (.cells #[.int .u8 i1, .int .u8 i2, .int .u8 i3, .int .u8 i4, .int .u8 i5, .int .u8 i6, .int .u8 j1, .int .u8 j2, .int .u8 j3, .int .u8 j4, .int .u8 j5, .int .u8 j6, .int .i64 rty, .string (B rd)] 113 (0, 0))).cell? ⟨w5.heap.size, 2, none⟩ = some (.int .u8 i3) := hb2.c 2 _ rfl
            have xb3 : (w5.alloc (.cells #[.int .u8 i1, .int .u8 i2, .int .u8 i3, .int .u8 i4, .int .u8 i5, .int .u8 i6, .int .u8 j1, .int .u8 j2, .int .u8 j3, .int .u8 j4, .int .u8 j5, .int .u8 j6, .int .i64 rty, .string (B rd)] 113 (0, 0))).cell? ⟨w5.heap.size, 3, none⟩ = some (.int .u8 i4) := hb2.c 3 _ rfl
            have xb4 : (w5.alloc (.cells #[.int .u8 i1, .int .u8 i2, .int .u8 i3, .int .u8 i4, .int .u8 i5, .int .u8 i6, .int .u8 j1, .int .u8 j2, .int .u8 j3, .int .u8 j4, .int .u8 j5, .int .u8 j6, .int .i64 rty, .string (B rd)] 113 (0, 0))).cell? ⟨w5.heap.size, 4, none⟩ = some (.int .u8 i5) := hb2.c 4 _ rfl
            have xb5 : (w5.alloc (.cells #[.int .u8 i1, .int .u8 i2, .int .u8 i3, .int .u8 i4, .int .u8 i5, .int .u8 i6, .int .u8 j1, .int .u8 j2, .int .u8 j3, .int .u8 j4, .int .u8 j5, .int .u8 j6, .int .i64 rty, .string (B rd)] 113 (0, 0))).cell? ⟨w5.heap.size, 5, none⟩ = some (.int .u8 i6) := hb2.c 5 _ rfl
            have xb6 : (w5.alloc (.cells #[.int .u8 i1, .int .u8 i2, .int .u8 i3, .int .u8 i4, .int .u8 i5, .int .u8 i6, .int .u8 j1, .int .u8 j2, .int .u8 j3, .int .u8 j4, .int .u8 j5, .int .u8 j6, .int .i64 rty, .string (B rd)] 113 (0, 0))).cell? ⟨w5.heap.size, 6, none⟩ = some (.int .u8 j1) := hb2.c 6 _ rfl
            have xb7 : (w5.alloc (.cells #[.int .u8 i1, .int .u8 i2, .int .u8 i3, .int .u8 i4, .int .u8 i5, .int .u8 i6, .int .u8 j1, .int .u8 j2, .int .u8 j3, .int .u8 j4, .int .u8 j5, .int .u8 j6, .int .i64 rty, .string (B rd)] 113 (0, 0))).cell? ⟨w5.heap.size, 7, none⟩ = some (.int .u8 j2) := hb2.c 7 _ rfl
            have xb8 : (w5.alloc (.cells #[.int .u8 i1, .int .u8 i2, .int .u8 i3, .int .u8 i4, .int .u8 i5, .int .u8 i6, .int .u8 j1, .int .u8 j2, .int .u8 j3, .int .u8 j4, .int .u8 j5, .int .u8 j6, .int .i64 rty, .string (B rd)] 113 (0, 0))).cell? ⟨w5.heap.size, 8, none⟩ = some (.int .u8 j3) := hb2.c 8 _ rfl
            have xb9 : (w5.alloc (.cells #[.int .u8 i1, .int .u8 i2, .int .u8 i3, .int .u8 i4, .int .u8 i5, .int .u8 i6, .int .u8 j1, .int .u8 j2, .int .u8 j3, .int .u8 j4, .int .u8 j5, .int .u8 j6, .int .i64 rty, .string (B rd)] 113 (0, 0))).cell? ⟨w5.heap.size, 9, none⟩ = some (.int .u8 j4) := hb2.c 9 _ rfl
            have xb10 : (w5.alloc (.cells #[.int .u8 i1, .int .u8 i2, .int .u8 i3, .int .u8 i4, .int .u8 i5, .int .u8 i6, .int .u8 j1, .int .u8 j2, .int .u8 j3, .int .u8 j4, .int .u8 j5, .int .u8 j6, .int .i64 rty, .string (B rd)] 113 (0, 0))).cell? ⟨w5.heap.size, 10, none⟩ = some (.int .u8 j5) := hb2.c 10 _ rfl
            have xb11 : (w5.alloc (.cells #[.int .u8 i1, .int .u8 i2, .int .u8 i3, .int .u8 i4, .int .u8 i5, .int .u8 i6, .int .u8 j1, .int .u8 j2, .int .u8 j3, .int .u8 j4, .int .u8 j5, .int .u8 j6, .int .i64 rty, .string (B rd)] 113 (0, 0))).cell? ⟨w5.heap.size, 11, none⟩ = some (.int .u8 j6) := hb2.c 11 _ rfl
            have xb12 : (w5.alloc (.cells #[.int .u8 i1, .int .u8 i2, .int .u8 i3, .int .u8 i4, .int .u8 i5, .int .u8 i6, .int .u8 j1, .int .u8 j2, .int .u8 j3, .int .u8 j4, .int .u8 j5, .int .u8 j6, .int .i64 rty, .string (B rd)] 113 (0, 0))).cell? ⟨w5.heap.size, 12, none⟩ = some (.int .i64 rty) := hb2.c 12 _ rfl
            have xb13 : (w5.alloc (.cells #[.int .u8 i1, .int .u8 i2, .int .u8 i3, .int .u8 i4, .int .u8 i5, .int .u8 i6, .int .u8 j1, .int .u8 j2, .int .u8 j3, .int .u8 j4, .int .u8 j5, .int .u8 j6, .int .i64 rty, .string (B rd)] 113 (0, 0))).cell? ⟨w5.heap.size, 13, none⟩ = some (.string (B rd)) := hb2.c 13 _ rfl
            have HE := Lib.hid (HPs.none_ (HP3.out.fr0 (HF4.out.trans hF5a)) HT0.out nO #[.int .i64 kd, .int .u8 k1, .int .u8 k2, .int .u8 k3, .int .u8 k4, .int .u8 k5, .int .u8 k6, .int .u8 s1, .int .u8 s2, .int .u8 s3, .int .u8 s4, .int .u8 s5, .int .u8 s6, .int .i64 ty, .string (B d0), .string (B dt)] ((HF4.out.trans hF5a).blk HNO.out (by simp)))
            have hn2 : (rc != rc) = false := by simp
            clear hF5 hF5a hb1 hb2 DD
            go_wp2_with fail
            go_meet
            exact HE.out
        have hd6 : (kd == 6) = false := by simpa using hi
        clear hd he hf hh hi
        as_aux_lemma =>
          have TP := Lib.hid fun W (hW : PhIs W c p) => hW.take HP3.out.hi ⟨⟨k1, k2, k3, k4, k5, k6⟩, ⟨s1, s2, s3, s4, s5, s6⟩, ty, d0⟩ HLD.out
          have TD := Lib.hid fun W (hW : Blk W g (dhC d) 254) => dtake_any ⟨k1, k2, k3, k4, k5, k6⟩ ⟨s1, s2, s3, s4, s5, s6⟩ ty d0 HDI.out HLD.out hW
          unfold etC ethC at TP
          unfold ethC at TD
          simp only at TP TD
          go_wp2_with fail
          refine wp_region_held_drew (S := (fun W => (W.cell? ⟨nO, 1, none⟩ = some (.int .u8 k1) ∧ W.cell? ⟨nO, 2, none⟩ = some (.int .u8 k2) ∧ W.cell? ⟨nO, 3, none⟩ = some (.int .u8 k3) ∧ W.cell? ⟨nO, 4, none⟩ = some (.int .u8 k4) ∧ W.cell? ⟨nO, 5, none⟩ = some (.int .u8 k5) ∧ W.cell? ⟨nO, 6, none⟩ = some (.int .u8 k6) ∧ W.cell? ⟨nO, 7, none⟩ = some (.int .u8 s1) ∧ W.cell? ⟨nO, 8, none⟩ = some (.int .u8 s2) ∧ W.cell? ⟨nO, 9, none⟩ = some (.int .u8 s3) ∧ W.cell? ⟨nO, 10, none⟩ = some (.int .u8 s4) ∧ W.cell? ⟨nO, 11, none⟩ = some (.int .u8 s5) ∧ W.cell? ⟨nO, 12, none⟩ = some (.int .u8 s6) ∧ W.cell? ⟨nO, 13, none⟩ = some (.int .i64 ty) ∧ W.cell? ⟨nO, 14, none⟩ = some (.string (B d0))) ∧ Blk W nO #[.int .i64 kd, .int .u8 k1, .int .u8 k2, .int .u8 k3, .int .u8 k4, .int .u8 k5, .int .u8 k6, .int .u8 s1, .int .u8 s2, .int .u8 s3, .int .u8 s4, .int .u8 s5, .int .u8 s6, .int .i64 ty, .string (B d0), .string (B dt)] 115)) (by kernel_rfl) ?_ (fun hHeld => ?_)
          · (try dsimp only); exact HX.out _ HNO.out.drew
          have HPd := Lib.hid (HP3.out.fr0 (Fr.refl [] W3).drew)
          have HNd := Lib.hid HNO.out.drew
          obtain ⟨v0, hv⟩ : ∃ X, W3.drew = X := ⟨_, rfl⟩
          rw [hv] at hHeld HPd HNd ⊢
          clear hv
          refine take_yes 0 102 rfl rfl (by kernel_rfl) (by kernel_rfl) (by kernel_rfl) (fun _ _ _ h => h) (by rfl) (by assumption) (v := ?_) ?_ ?_
          rotate_left
          · intro w hSw; (try dsimp only at hSw); go_simp; (try with_reducible rfl)
          try simp only [Act.put, List.setIfInBounds_toArray, List.set_cons_zero, List.set_cons_succ]
          refine take_yes 1 103 rfl rfl (by kernel_rfl) (by kernel_rfl) (by kernel_rfl) (fun _ _ _ h => h) (by rfl) (by assumption) (v := ?_) ?_ ?_
          rotate_left
          · intro w hSw; (try dsimp only at hSw); go_simp; (try with_reducible rfl)
          try simp only [Act.put, List.setIfInBounds_toArray, List.set_cons_zero, List.set_cons_succ]
          refine take_yes 2 104 rfl rfl (by kernel_rfl) (by kernel_rfl) (by kernel_rfl) (fun _ _ _ h => h) (by rfl) (by assumption) (v := .agg #[.int .u8 k1, .int .u8 k2, .int .u8 k3, .int .u8 k4, .int .u8 k5, .int .u8 k6, .int .u8 s1, .int .u8 s2, .int .u8 s3, .int .u8 s4, .int .u8 s5, .int .u8 s6, .int .i64 ty, .string (B d0)]) ?_ ?_
          · intro w hSw; (try dsimp only at hSw); go_simp
          try simp only [Act.put, List.setIfInBounds_toArray, List.set_cons_zero, List.set_cons_succ]
          refine take_yes 4 106 rfl rfl (by kernel_rfl) (by kernel_rfl) (by kernel_rfl) (fun _ _ _ h => h) (by rfl) (by assumption) (v := ?_) ?_ ?_
          rotate_left
          · intro w hSw; (try dsimp only at hSw); go_simp; (try with_reducible rfl)
          try simp only [Act.put, List.setIfInBounds_toArray, List.set_cons_zero, List.set_cons_succ]
          refine take_yes 5 107 rfl rfl (by kernel_rfl) (by kernel_rfl) (by kernel_rfl) (fun _ _ _ h => h) (by rfl) (by assumption) (v := ?_) ?_ ?_
          rotate_left
          · intro w hSw; (try dsimp only at hSw); go_simp; (try with_reducible rfl)
          try simp only [Act.put, List.setIfInBounds_toArray, List.set_cons_zero, List.set_cons_succ]
          refine take_yes 6 108 rfl rfl (by kernel_rfl) (by kernel_rfl) (by kernel_rfl) (fun _ _ _ h => h) (by rfl) (by assumption) (v := .agg #[.int .u8 k1, .int .u8 k2, .int .u8 k3, .int .u8 k4, .int .u8 k5, .int .u8 k6, .int .u8 s1, .int .u8 s2, .int .u8 s3, .int .u8 s4, .int .u8 s5, .int .u8 s6, .int .i64 ty, .string (B d0)]) ?_ ?_
          · intro w hSw; (try dsimp only at hSw); go_simp
          try simp only [Act.put, List.setIfInBounds_toArray, List.set_cons_zero, List.set_cons_succ]
          refine wpAnyH_ready (rs := [3]) (by kernel_rfl) (by simp) ?_
          refine AllReadyH.cons (o := _) rfl (fun K hK => ?_) AllReadyH.nil
          go_simp
          refine (TP.out _ HPd.out.pr).mono ?_
          rintro e v1 hP1
          have HP1 := Lib.hid hP1
          have HQ := Lib.hid (HPd.out.prog hP1.1.choose_spec.choose_spec.2.2)
          have HN1 := Lib.hid (show Blk v1 nO #[.int .i64 kd, .int .u8 k1, .int .u8 k2, .int .u8 k3, .int .u8 k4, .int .u8 k5, .int .u8 k6, .int .u8 s1, .int .u8 s2, .int .u8 s3, .int .u8 s4, .int .u8 s5, .int .u8 s6, .int .i64 ty, .string (B d0), .string (B dt)] 115 from hP1.1.choose_spec.choose_spec.2.2.blk HNd.out (fun hq => by simp at hq; subst hq; obtain ⟨ck, hB, _⟩ := HPd.out.pr; exact HNd.out.neT hB (by decide) rfl))
          obtain ⟨⟨A1, c1, rfl, _, _⟩, _⟩ := hP1
          (try go_wp2_with fail)
          refine hK.out _ _ ?_ (fun hHeld => ?_)
          · (try dsimp only); exact HX.out _ HN1.out
          clear hK K
          try simp only [Act.put, List.setIfInBounds_toArray, List.set_cons_zero, List.set_cons_succ]
          refine wpAnyH_ready (rs := [7]) (by kernel_rfl) (by simp) ?_
          refine AllReadyH.cons (o := _) rfl (fun K hK => ?_) AllReadyH.nil
          go_simp
          refine (TD.out _ HQ.out.2.1).mono ?_
          rintro e v2 hP2
          have HP2 := Lib.hid hP2
          obtain ⟨⟨A2, c2, rfl, _, _⟩, _⟩ := hP2
          have HE := Lib.hid (HPs.both HPd.out (pTake_len p (⟨k1, k2, k3, k4, k5, k6⟩, ⟨s1, s2, s3, s4, s5, s6⟩, ty, d0)) (HPd.out.hr.take (⟨k1, k2, k3, k4, k5, k6⟩, ⟨s1, s2, s3, s4, s5, s6⟩, ty, d0)) (HPd.out.hi.take (⟨k1, k2, k3, k4, k5, k6⟩, ⟨s1, s2, s3, s4, s5, s6⟩, ty, d0)) (HT0.out.take HPd.out.hi (⟨k1, k2, k3, k4, k5, k6⟩, ⟨s1, s2, s3, s4, s5, s6⟩, ty, d0)) HP1.out HP2.out nO #[.int .i64 kd, .int .u8 k1, .int .u8 k2, .int .u8 k3, .int .u8 k4, .int .u8 k5, .int .u8 k6, .int .u8 s1, .int .u8 s2, .int .u8 s3, .int .u8 s4, .int .u8 s5, .int .u8 s6, .int .i64 ty, .string (B d0), .string (B dt)] HNd.out)
          have HN2 : Hid (Blk v2 nO #[.int .i64 kd, .int .u8 k1, .int .u8 k2, .int .u8 k3, .int .u8 k4, .int .u8 k5, .int .u8 k6, .int .u8 s1, .int .u8 s2, .int .u8 s3, .int .u8 s4, .int .u8 s5, .int .u8 s6, .int .i64 ty, .string (B d0), .string (B dt)] 115) := Lib.hid (by obtain ⟨_, _, _, _, _, _, _, _, _, _, _, _, _, _, _, _, _, hh⟩ := HE.out; exact hh)
          (try go_wp2_with fail)
          refine hK.out _ _ ?_ (fun hHeld => ?_)
          · (try dsimp only); exact HX.out _ HN2.out
          clear hK K
          try simp only [Act.put, List.setIfInBounds_toArray, List.set_cons_zero, List.set_cons_succ]
          refine take_yes 8 20 rfl rfl (by kernel_rfl) (by kernel_rfl) (by kernel_rfl) (fun _ _ _ h => h) (by rfl) (by assumption) (v := ?_) ?_ ?_
          rotate_left
          · intro w hSw; (try dsimp only at hSw); go_simp; (try with_reducible rfl)
          try simp only [Act.put, List.setIfInBounds_toArray, List.set_cons_zero, List.set_cons_succ]
          refine take_yes 9 21 rfl rfl (by kernel_rfl) (by kernel_rfl) (by kernel_rfl) (fun _ _ _ h => h) (by rfl) (by assumption) (v := ?_) ?_ ?_
          rotate_left
          · intro w hSw; (try dsimp only at hSw); go_simp; (try with_reducible rfl)
          try simp only [Act.put, List.setIfInBounds_toArray, List.set_cons_zero, List.set_cons_succ]
          refine wpAnyH_done (by kernel_rfl) ?_ _
          go_wp2_with fail
          go_meet
          exact HE.out
      case rest =>
        clear HP3 HNO HX HT0 HDI HLD HLT
        as_aux_lemma =>
          obtain ⟨p2, d2, kp2, lo, A1, A2, c1, c2, rfl, rfl, hlo, hP, hT, hw1, hw2, hap, hvb, hNO2⟩ := hcut
          have BK := Lib.hid (hP.bk.eths hP.fr.size A1 c1 lo hw1 (by omega) hap hvb)
          have HP := Lib.hid hP
          have HT2 := Lib.hid hT
          have HW := Lib.hid (And.intro hw1 hw2)
          have hloI : (lo.length : Int) ≤ 1 := by omega
          have HLO := Lib.hid hlo
          clear hP hT hw1 hw2 hap hvb hNO2 hlo
          go_wp2_with fail
          refine BK.out.mono ?_
          rintro e w5 ⟨rfl, ⟨kp3, hK3⟩, hF3⟩
          have HP5 := Lib.hid (HP.out.book hF3 hK3)
          have HW5 := Lib.hid (And.intro (hF3.row HW.out.1 (by decide) (by decide)) (hF3.row HW.out.2 (by decide) (by decide)))
          have ST := Lib.hid (HP5.out.pr.state HP5.out.hi)
          have SH := Lib.hid fun W (hW : Fr [] w5 W) => dhShows (hW.blk HP5.out.dc (by simp))
          have hk := HP5.out.hr.k
          have hss := HP5.out.hr.ss
          have hst := HP5.out.hr.st
          rw [dhShow_1, ← hk, ← hss, ← hst] at SH
          obtain ⟨⟨n1, n2, n3, n4, n5, n6⟩, hkk⟩ : ∃ k, p2.1.k = k := ⟨_, rfl⟩
          obtain ⟨st, hstt⟩ : ∃ k, p2.1.st = k := ⟨_, rfl⟩
          obtain ⟨ss, hsst⟩ : ∃ k, p2.1.ss = k := ⟨_, rfl⟩
          rw [hkk, hstt, hsst] at ST SH
          have heq := fun W => eq_mac 9998 ⟨n1, n2, n3, n4, n5, n6⟩ ⟨n1, n2, n3, n4, n5, n6⟩ W
          rw [mcEq_self] at heq
          unfold mcL at ST SH heq
          simp only at ST SH heq
          clear BK hF3 hK3 hk hss hst hkk hstt hsst HW HP
          go_wp2_with fail
          refine ST.out.mono ?_
          rintro e w6 ⟨rfl, hF6⟩
          have hF6a := hF6.alloc (.cells #[.int .u8 n1, .int .u8 n2, .int .u8 n3, .int .u8 n4, .int .u8 n5, .int .u8 n6] 104 (0, 0))
          have HB6 := Lib.hid (Blk.new w6 #[.int .u8 n1, .int .u8 n2, .int .u8 n3, .int .u8 n4, .int .u8 n5, .int .u8 n6] 104)
          have HF6 := Lib.hid hF6a
          clear hF6 hF6a ST
          go_wp2_with fail
          obtain ⟨qa, hqa⟩ : ∃ q, w6.heap.size = q := ⟨_, rfl⟩
          obtain ⟨v6, hv6⟩ : ∃ V, w6.alloc (.cells #[.int .u8 n1, .int .u8 n2, .int .u8 n3, .int .u8 n4, .int .u8 n5, .int .u8 n6] 104 (0, 0)) = V := ⟨_, rfl⟩
          (try rw [hqa])
          (try rw [hv6])
          rw [hqa] at HB6
          rw [hv6] at HB6 HF6
          clear hqa hv6
          refine (SH.out _ HF6.out).mono ?_
          rintro e w7 ⟨rfl, hF7⟩
          have hF7a := hF7.alloc (.cells #[.int .u8 n1, .int .u8 n2, .int .u8 n3, .int .u8 n4, .int .u8 n5, .int .u8 n6] 104 (0, 0))
          have HB7 := Lib.hid (Blk.new w7 #[.int .u8 n1, .int .u8 n2, .int .u8 n3, .int .u8 n4, .int .u8 n5, .int .u8 n6] 104)
          have HB6b := Lib.hid (hF7a.blk HB6.out (by simp))
          have HF7 := Lib.hid (HF6.out.trans hF7a)
          clear hF7 hF7a SH HB6
          go_wp2_with fail
          obtain ⟨qb, hqb⟩ : ∃ q, w7.heap.size = q := ⟨_, rfl⟩
          obtain ⟨v7, hv7⟩ : ∃ V, w7.alloc (.cells #[.int .u8 n1, .int .u8 n2, .int .u8 n3, .int .u8 n4, .int .u8 n5, .int .u8 n6] 104 (0, 0)) = V := ⟨_, rfl⟩
          (try rw [hqb])
          (try rw [hv7])
          rw [hqb] at HB7
          rw [hv7] at HB7 HB6b HF7
          clear hqb hv7 HF6
          refine (et_same lo A1 A2 c1 c2 (RAt.of_own etF_len (own_fr0 HW5.out.1 HF7.out)) (RAt.of_own etF_len (own_fr0 HW5.out.2 HF7.out)) (by have := HLO.out; omega)).mono ?_
          rintro e w8 ⟨rfl, hF8⟩
          have ha := hF8.blk HB6b.out (by simp)
          have hb := hF8.blk HB7.out (by simp)
          have xa0 : w8.cell? ⟨qa, 0, none⟩ = some (.int .u8 n1) := ha.c 0 _ rfl
          have xb0 : w8.cell? ⟨qb, 0, none⟩ = some (.int .u8 n1) := hb.c 0 _ rfl
          have xa1 : w8.cell? ⟨qa, 1, none⟩ = some (.int .u8 n2) := ha.c 1 _ rfl
          have xb1 : w8.cell? ⟨qb, 1, none⟩ = some (.int .u8 n2) := hb.c 1 _ rfl
          have xa2 : w8.cell? ⟨qa, 2, none⟩ = some (.int .u8 n3) := ha.c 2 _ rfl
          have xb2 : w8.cell? ⟨qb, 2, none⟩ = some (.int .u8 n3) := hb.c 2 _ rfl
          have xa3 : w8.cell? ⟨qa, 3, none⟩ = some (.int .u8 n4) := ha.c 3 _ rfl
          have xb3 : w8.cell? ⟨qb, 3, none⟩ = some (.int .u8 n4) := hb.c 3 _ rfl
          have xa4 : w8.cell? ⟨qa, 4, none⟩ = some (.int .u8 n5) := ha.c 4 _ rfl
          have xb4 : w8.cell? ⟨qb, 4, none⟩ = some (.int .u8 n5) := hb.c 4 _ rfl
          have xa5 : w8.cell? ⟨qa, 5, none⟩ = some (.int .u8 n6) := ha.c 5 _ rfl
          have xb5 : w8.cell? ⟨qb, 5, none⟩ = some (.int .u8 n6) := hb.c 5 _ rfl
          have HP8 := Lib.hid (HP5.out.fr0 (HF7.out.trans hF8))
          have hn1 : (st != st) = false := by simp
          have hn2 : (ss != ss) = false := by simp
          clear ha hb hF8 HF7 HB7 HB6b HW5 HP5
          go_wp2_with fail
          go_roundw
          case rel => exact ⟨j + 1, _, _, _, by omega, by go_num, HP8.out, HT2.out⟩
          case measure => (simp [intOf]) <;> omega
    · obtain rfl : j = len := by omega
      have AP := Lib.hid fun (W : World) (hW : Fr [] wr W) => ((HP0.out.fr0 hW).bk.apart (HP0.out.fr0 hW).fr)
      go_wp2_with fail
      refine (AL.out _).mono ?_
      rintro e w5 ⟨rfl, hF5⟩
      have AP2 := Lib.hid (AP.out _ hF5)
      clear hF5 AP
      go_wp2_with fail
      refine AP2.out.mono ?_
      rintro e w6 ⟨rfl, hF6⟩
      have HF6 := Lib.hid hF6
      clear hF6 AP2
      go_wp2_with fail
      go_ret
      exact ⟨rfl, HF6.out.below (Nat.le_refl _) (by simp)⟩
end Go.Proofs.YtfchbppfbepelaaGreat
