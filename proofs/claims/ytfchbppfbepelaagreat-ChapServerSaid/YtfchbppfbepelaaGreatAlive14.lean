/- chap: the first call of the statements. -/
import Derived.Test.YtfchbppfbepelaaGreatChap7
namespace Go.Proofs.YtfchbppfbepelaaGreat
open Go.RowKit
set_option linter.unusedVariables false

theorem chap_len (i : Int) (s v n : List UInt8) (hn : n.length ≤ 60) : pvE (md5 (chapL i s v)) n = 0 := by
  have m16 := md5_length (chapL i s v)
  unfold pvE
  rw [if_neg, if_neg (by omega)]
  rintro (h | h)
  · rw [h] at m16; simp at m16
  · omega

theorem clm_one (nm v rs : List UInt8) (id : Int) : (clm nm v rs id).all (·.oneCell') = true := by simp [clm, Value.oneCell']
theorem al14_mk {w0 w : World} {q gr : Nat} {nm v rs : List UInt8} {id c i : Int} {d : List UInt8} (hQ : Blk w q (clm nm v rs id) 94) (hP : Pk w gr c i d) (hg : gr < w.heap.size) (hF : Fr [] w0 w) :
    (w.cell? ⟨q, 0, none⟩ = some (.string (B nm)) ∧ w.cell? ⟨q, 1, none⟩ = some (.string (B v)) ∧ w.cell? ⟨q, 2, none⟩ = some (.string (B rs)) ∧ w.cell? ⟨q, 3, none⟩ = some (.int .i64 id) ∧ w.cell? ⟨gr, 0, none⟩ = some (.int .i64 c)) ∧ Blk w q (clm nm v rs id) 94 ∧ Pk w gr c i d ∧ gr < w.heap.size ∧ Fr [] w0 w :=
  ⟨⟨hQ.c 0 _ rfl, hQ.c 1 _ rfl, hQ.c 2 _ rfl, hQ.c 3 _ rfl, hP.1⟩, hQ, hP, hg, hF⟩
theorem al14_on {w0 w w3 : World} {q gr : Nat} {nm v rs : List UInt8} {id c i : Int} {d : List UInt8}
    (h : (w.cell? ⟨q, 0, none⟩ = some (.string (B nm)) ∧ w.cell? ⟨q, 1, none⟩ = some (.string (B v)) ∧ w.cell? ⟨q, 2, none⟩ = some (.string (B rs)) ∧ w.cell? ⟨q, 3, none⟩ = some (.int .i64 id) ∧ w.cell? ⟨gr, 0, none⟩ = some (.int .i64 c)) ∧ Blk w q (clm nm v rs id) 94 ∧ Pk w gr c i d ∧ gr < w.heap.size ∧ Fr [] w0 w) (hF : Fr [] w w3) :
    (w3.cell? ⟨q, 0, none⟩ = some (.string (B nm)) ∧ w3.cell? ⟨q, 1, none⟩ = some (.string (B v)) ∧ w3.cell? ⟨q, 2, none⟩ = some (.string (B rs)) ∧ w3.cell? ⟨q, 3, none⟩ = some (.int .i64 id) ∧ w3.cell? ⟨gr, 0, none⟩ = some (.int .i64 c)) ∧ Blk w3 q (clm nm v rs id) 94 ∧ Pk w3 gr c i d ∧ gr < w3.heap.size ∧ Fr [] w0 w3 := by
  obtain ⟨_, hQ, hP, hg, hF0⟩ := h
  exact al14_mk (hF.blk hQ (by simp)) (hP.fr hF hg (by simp)) (by have := hF.size; omega) (hF0.trans hF)
set_option maxRecDepth 100000 in
set_option maxHeartbeats 4000000 in
theorem alive14 (w : World) : Calls Tryz.prog 28 #[] w fun e w' => e = .returned (.bool true) ∧ Fr [] w w' := by
  have n1 : ([115, 114, 118] : List UInt8).length ≤ 60 := by decide
  have hv0 : pvE [99, 104, 97, 108, 108, 101, 110, 103, 101] [115, 114, 118] = 0 := by decide +kernel
  have S := Lib.hid fun W : World => snew_ok (w := W) (n := [115, 114, 118]) (r := 2) (wt := 3) (by decide) (by decide) (by decide) (by decide) (by decide)
  have C := Lib.hid fun W : World => cnew_ok (w := W) (n := [109, 101]) (s := [107, 101, 121]) (by decide) (by decide)
  obtain ⟨g1, g2, g3⟩ := gv_back [99, 104, 97, 108, 108, 101, 110, 103, 101] [115, 114, 118] hv0
  have hpl := pvL_le [99, 104, 97, 108, 108, 101, 110, 103, 101] [115, 114, 118]
  have hm := chap_len 1 [107, 101, 121] [99, 104, 97, 108, 108, 101, 110, 103, 101] [109, 101] (by decide)
  obtain ⟨k1, k2, k3⟩ := gv_back (md5 (chapL 1 [107, 101, 121] [99, 104, 97, 108, 108, 101, 110, 103, 101])) [109, 101] hm
  have HX := Lib.hid fun W => chap_any 1 [107, 101, 121] [99, 104, 97, 108, 108, 101, 110, 103, 101] W (by decide) (by decide)
  have Hv0 := Lib.hid hv0
  have G1 := Lib.hid g1
  have G2 := Lib.hid g2
  have Hpl := Lib.hid hpl
  have K1 := Lib.hid k1
  have K2 := Lib.hid k2
  have K3 := Lib.hid k3
  obtain ⟨M, hM⟩ : ∃ M, md5 (chapL 1 [107, 101, 121] [99, 104, 97, 108, 108, 101, 110, 103, 101]) = M := ⟨_, rfl⟩
  rw [hM] at HX K1 K2 K3
  have HM := Lib.hid hM
  clear hM
  clear n1 hv0 g1 g2 g3 hpl hm k1 k2 k3
  go_enter Tryz.func28, Tryz.ntmps28
  go_wp2_with fail
  refine (S.out _).mono ?_
  rintro e w1 ⟨gs, rfl, hgs, hS1, hF1⟩
  go_wp2_with fail
  refine (C.out _).mono ?_
  rintro e w2 ⟨gc, rfl, hgc, hC2, hF2⟩
  have hS2 := hF2.blk hS1 (by simp)
  have hgs1 := hS1.lt
  have hne : gs ≠ gc := by omega
  have hFa := hF1.trans hF2
  have hz1 := hF1.size
  clear S C hS1 hF1 hF2
  have HT := Lib.hid (sstart_any (w := w2) (by decide) (by decide) [99, 104, 97, 108, 108, 101, 110, 103, 101] Hv0.out (by decide) hS2)
  go_wp2_with fail
  refine HT.out.mono ?_
  rintro e w3 ⟨gp, rfl, hgp, hgpl, hP3, hS3, hF3⟩
  have hgc2 := hC2.lt
  have hC3 := hF3.blk hC2 (by simp; omega)
  have hFb := hFa.sub hF3 (fun z hz => by simp at hz; subst hz; right; omega)
  clear HT hS2 hC2 hFa hF3
  rw [show ((0 : Int) + 1) % 256 = 1 from rfl] at hP3 hS3
  replace hP3 := And.intro hP3.1 True.intro
  obtain ⟨p0, p1, p2, p3⟩ := hP3.1
  have HU := Lib.hid (ctake_chal (w := w3) 1 none 0 0 (pvL [99, 104, 97, 108, 108, 101, 110, 103, 101] [115, 114, 118]) G1.out (by have := Hpl.out; omega) (by decide) (by decide) hC3)
  rw [G2.out] at HU
  unfold CSay at HU
  rw [HM.out] at HU
  go_wp2_with fail
  refine HU.out.mono ?_
  rintro e w4 ⟨gq, rfl, hgq, hgql, hP4', hC4, hF4⟩
  have hP4 := And.intro hP4'.1 True.intro
  clear hP4'
  have hS4 := hF4.blk hS3 (by simp; omega)
  have hFc := hFb.sub hF4 (fun z hz => by simp at hz; subst hz; right; omega)
  have hz3 := hFb.size
  clear HU hS3 hC3 hFb hF4 p0 p1 p2 p3
  obtain ⟨p0, p1, p2, p3⟩ := hP4.1
  have HV := Lib.hid (stake_ok (w := w4) 1 none 0 0 (pvL M [109, 101]) K1.out (by decide) (by decide) (by decide) (by decide) hS4)
  rw [K2.out, K3.out] at HV
  go_wp2_with fail
  refine HV.out.mono ?_
  rintro e w5 ⟨rfl, hS5, hF5⟩
  have hC5 := hF5.blk hC4 (by simp; omega)
  have hFd := hFc.sub hF5 (fun z hz => by simp at hz; subst hz; right; omega)
  have hz5 := hFd.size
  have hgc5 := hC5.lt
  have hgs5 := hS5.lt
  clear HV hS4 hC4 hFc hF5 p0 p1 p2 p3
  go_wp2_with (refine wpList_store_blk rfl 94 (.tmp 7) (.tmp 53) rfl w5.heap.size 94 clz (clm [109, 101] [99, 104, 97, 108, 108, 101, 110, 103, 101] M 1) ?k0 rfl rfl rfl (by kernel_rfl) (clm_one _ _ _ _) ?_)
  case k0 => exact Blk.new _ _ _
  intro w6 hw6 hQ6
  have hS6 := by have h := (hS5.alloc (.cells clz 94)).setCells_other w5.heap.size 0 (clm [109, 101] [99, 104, 97, 108, 108, 101, 110, 103, 101] M 1).toList (by omega); exact h
  have hC6 := by have h := (hC5.alloc (.cells clz 94)).setCells_other w5.heap.size 0 (clm [109, 101] [99, 104, 97, 108, 108, 101, 110, 103, 101] M 1).toList (by omega); exact h
  have hFe : Fr [] w w6 := by rw [hw6.out]; exact (hFd.alloc _).setCells _ _ _ (Or.inl hz5)
  rw [← show w6 = (w5.alloc (.cells clz 94)).setCells w5.heap.size 0 (clm [109, 101] [99, 104, 97, 108, 108, 101, 110, 103, 101] M 1).toList from hw6.out] at hS6 hC6
  obtain ⟨q, hq⟩ : ∃ q, w5.heap.size = q := ⟨_, rfl⟩
  rw [hq] at hQ6 hz5 hgc5 hgs5 ⊢
  clear hw6 hS5 hC5 hFd hq
  have HJ := Lib.hid (sjudge_any (w := w6) true (by decide) (by decide) (by decide) hS6)
  go_wp2_with fail
  refine HJ.out.mono ?_
  rintro e w7 ⟨gr, cap, h7, rfl, hgr, hgrl, hP7, hh7, hhl7, hH7, hS7, hF7⟩
  have hql := hQ6.lt
  have hC7 := hF7.blk hC6 (by simp; omega)
  have hQ7 := hF7.blk hQ6 (by simp; omega)
  have hFf := hFe.sub hF7 (fun z hz => by simp at hz; subst hz; right; omega)
  clear HJ hS6 hC6 hQ6 hFe hF7 hH7
  obtain ⟨p0, p1, p2, p3⟩ := hP7.1
  have HT2 := Lib.hid (ctake_said (w := w7) 3 1 none 0 0 [] (by decide) (Or.inl (by decide)) (by decide) hC7)
  go_wp2_with fail
  refine HT2.out.mono ?_
  rintro e w8 ⟨rfl, hC8, hF8⟩
  have hQ8 := hF8.blk hQ7 (by simp; omega)
  have hP8 : Pk w8 gr 3 1 [] := (show Pk w7 gr 3 1 [] from ⟨p0, p1, p2, p3⟩).fr hF8 hgrl (by simp; have := hQ7.lt; omega)
  have hgr8 : gr < w8.heap.size := by have := hF8.size; omega
  have hFg := hFf.sub hF8 (fun z hz => by simp at hz; subst hz; right; omega)
  clear HT2 hS7 hC7 hQ7 hFf hF8 p0 p1 p2 p3
  have HD := Lib.hid (cdone_any hC8)
  go_wp2_with fail
  refine HD.out.mono ?_
  rintro e w9 ⟨rfl, hF9⟩
  have hQ9 := hF9.blk hQ8 (by simp)
  have hP9 := hP8.fr hF9 hgr8 (by simp)
  have hgr9 : gr < w9.heap.size := by have := hF9.size; omega
  have hFh := hFg.trans hF9
  clear HD hC8 hQ8 hP8 hFg hF9
  go_wp2_with fail
  have hG := al14_mk (w := w9.drew) hQ9.drew hP9 (show gr < w9.drew.heap.size from hgr9) hFh.drew
  clear hQ9 hP9 hFh
  go_region_held3 (fun w' => (w'.cell? ⟨q, 0, none⟩ = some (.string (B [109, 101])) ∧ w'.cell? ⟨q, 1, none⟩ = some (.string (B [99, 104, 97, 108, 108, 101, 110, 103, 101])) ∧ w'.cell? ⟨q, 2, none⟩ = some (.string (B M)) ∧ w'.cell? ⟨q, 3, none⟩ = some (.int .i64 1) ∧ w'.cell? ⟨gr, 0, none⟩ = some (.int .i64 3)) ∧ Blk w' q (clm [109, 101] [99, 104, 97, 108, 108, 101, 110, 103, 101] M 1) 94 ∧ Pk w' gr 3 1 [] ∧ gr < w'.heap.size ∧ Fr [] w w')
    (first | exact hG | assumption | exact al14_on (by assumption) (by assumption))
    (first | (go_at_call 183; refine (HX.out _).mono ?_; rintro e w3 ⟨rfl, hF3⟩))
  all_goals
    have hS : (w3.cell? ⟨q, 0, none⟩ = some (.string (B [109, 101])) ∧ w3.cell? ⟨q, 1, none⟩ = some (.string (B [99, 104, 97, 108, 108, 101, 110, 103, 101])) ∧ w3.cell? ⟨q, 2, none⟩ = some (.string (B M)) ∧ w3.cell? ⟨q, 3, none⟩ = some (.int .i64 1) ∧ w3.cell? ⟨gr, 0, none⟩ = some (.int .i64 3)) ∧ Blk w3 q (clm [109, 101] [99, 104, 97, 108, 108, 101, 110, 103, 101] M 1) 94 ∧ Pk w3 gr 3 1 [] ∧ gr < w3.heap.size ∧ Fr [] w w3 := by assumption
    have hfin := hS.2.2.2.2
    clear hS hG HX
    go_wp2_with fail
    go_ret
    exact ⟨rfl, hfin⟩
end Go.Proofs.YtfchbppfbepelaaGreat
