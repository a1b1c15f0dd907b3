/- ChapProves, walked. -/
import Derived.Test.YtgkibgglalginaaEq16
import Derived.Deep.DeepCutAuto
namespace Go.Proofs.Ytgkibgglalginaa
open Go.RowKit
set_option linter.unusedVariables false

/-- what the two drawn conditions leave as it is -/
def Rest (w0 : World) (q gs gc gp gq : Nat) (nm v rs PL QL : List UInt8) (CS CC : Array Value) (w : World) : Prop :=
  Blk w q (clm nm v rs 1) 39 ∧ Blk w gs CS 58 ∧ Blk w gc CC 64 ∧ (Pk w gp 1 1 PL ∧ gp < w.heap.size) ∧ (Pk w gq 2 1 QL ∧ gq < w.heap.size) ∧ Fr [] w0 w
variable {w0 : World} {q gs gc gp gq : Nat} {nm v rs PL QL : List UInt8} {CS CC : Array Value} {w w3 : World}
theorem Rest.cells (h : Rest w0 q gs gc gp gq nm v rs PL QL CS CC w) :
    (w.cell? ⟨q, 0, none⟩ = some (.string (B nm)) ∧ w.cell? ⟨q, 2, none⟩ = some (.string (B rs)) ∧ w.cell? ⟨gp, 1, none⟩ = some (.int .i64 1)) ∧ Rest w0 q gs gc gp gq nm v rs PL QL CS CC w :=
  ⟨⟨h.1.c 0 _ rfl, h.1.c 2 _ rfl, h.2.2.2.1.1.2.1⟩, h⟩
theorem Rest.on (h : Rest w0 q gs gc gp gq nm v rs PL QL CS CC w) (hF : Fr [] w w3) : Rest w0 q gs gc gp gq nm v rs PL QL CS CC w3 := by
  obtain ⟨a, b, c, ⟨d, e⟩, ⟨f, g⟩, k⟩ := h
  have hz := hF.size
  exact ⟨hF.blk a (by simp), hF.blk b (by simp), hF.blk c (by simp), ⟨d.fr hF e (by simp), by omega⟩, ⟨f.fr hF g (by simp), by omega⟩, k.trans hF⟩
theorem Rest.step (h : (w.cell? ⟨q, 0, none⟩ = some (.string (B nm)) ∧ w.cell? ⟨q, 2, none⟩ = some (.string (B rs)) ∧ w.cell? ⟨gp, 1, none⟩ = some (.int .i64 1)) ∧ Rest w0 q gs gc gp gq nm v rs PL QL CS CC w) (hF : Fr [] w w3) :
    (w3.cell? ⟨q, 0, none⟩ = some (.string (B nm)) ∧ w3.cell? ⟨q, 2, none⟩ = some (.string (B rs)) ∧ w3.cell? ⟨gp, 1, none⟩ = some (.int .i64 1)) ∧ Rest w0 q gs gc gp gq nm v rs PL QL CS CC w3 :=
  (h.2.on hF).cells

/-- what the tail of the statement keeps -/
def Kept (w0 : World) (gs gc gq gr gt : Nat) (QL : List UInt8) (cc : Int) (CS CC : Array Value) (w : World) : Prop :=
  Blk w gs CS 58 ∧ Blk w gc CC 64 ∧ (Pk w gq 2 1 QL ∧ gq < w.heap.size) ∧ (Pk w gr cc 1 [] ∧ gr < w.heap.size) ∧ (Pk w gt cc 1 [] ∧ gt < w.heap.size) ∧ Fr [] w0 w
theorem Kept.on {gr gt : Nat} {cc : Int} (h : Kept w0 gs gc gq gr gt QL cc CS CC w) (hF : Fr [] w w3) : Kept w0 gs gc gq gr gt QL cc CS CC w3 := by
  obtain ⟨b, c, ⟨d, e⟩, ⟨f, g⟩, ⟨i, j⟩, k⟩ := h
  have hz := hF.size
  exact ⟨hF.blk b (by simp), hF.blk c (by simp), ⟨d.fr hF e (by simp), by omega⟩, ⟨f.fr hF g (by simp), by omega⟩, ⟨i.fr hF j (by simp), by omega⟩, k.trans hF⟩
theorem Kept.client {gr gt : Nat} {cc : Int} {CC' : Array Value} (h : Kept w0 gs gc gq gr gt QL cc CS CC w) (hB : Blk w3 gc CC' 64) (hF : Fr [gc] w w3) (h0 : w0.heap.size ≤ gc) (h1 : gs ≠ gc) (h2 : gq ≠ gc) (h3 : gr ≠ gc) (h4 : gt ≠ gc) : Kept w0 gs gc gq gr gt QL cc CS CC' w3 := by
  obtain ⟨b, c, ⟨d, e⟩, ⟨f, g⟩, ⟨i, j⟩, k⟩ := h
  have hz := hF.size
  exact ⟨hF.blk b (by simpa using h1), hB, ⟨d.fr hF e (by simpa using h2), by omega⟩, ⟨f.fr hF g (by simpa using h3), by omega⟩, ⟨i.fr hF j (by simpa using h4), by omega⟩, k.sub hF (fun y hy => by simp at hy; subst hy; right; exact h0)⟩

set_option maxRecDepth 100000 in
set_option maxHeartbeats 20000000 in
theorem conv1 {W : World} {b : Nat} {bl : List UInt8} (hB : Blk W b #[.int .u8 1] 5) (h : bytesOf [1] = bl) : (convert 52 9 (.slice (some ⟨b, 0, none⟩) 1 1)).run Try.prog W = .ok (.string (B bl)) W := by
  rw [← h]; exact run_str Try.underlying52 Try.underlying5 Try.underlying9 [1] hB 1 rfl
set_option maxRecDepth 100000 in
set_option maxHeartbeats 20000000 in
theorem chapProves_small (w : World) (nm sec oth v : List UInt8) (good : Bool) (hn : nm.length ≤ 60) (hs : sec.length ≤ 60) (ho : oth.length ≤ 60) (v0 : 1 ≤ v.length) (v1 : v.length ≤ 60) :
    Calls Try.prog 5 #[.string (B nm), .string (B sec), .string (B oth), .string (B v), .bool good] w fun e w' => e = .returned (.bool true) ∧ Below w.heap.size w w' := by
  have hv0 : pvE v [115, 114, 118] = 0 := by
    unfold pvE
    rw [if_neg, if_neg (by decide)]
    rintro (h | h)
    · rw [h] at v0; simp at v0
    · omega
  have S := Lib.hid (snew_ok (w := w) (n := [115, 114, 118]) (r := 2) (wt := 3) (by decide) (by decide) (by decide) (by decide) (by decide))
  have C := Lib.hid fun W : World => cnew_ok (w := W) (n := nm) (s := sec) hn hs
  obtain ⟨g1, g2, g3⟩ := gv_back v [115, 114, 118] hv0
  have hpl := pvL_le v [115, 114, 118]
  have hm := chap_len 1 sec v nm hn
  obtain ⟨k1, k2, k3⟩ := gv_back (md5 (chapL 1 sec v)) nm hm
  have HX := Lib.hid fun W => chap_any 1 sec v W (by omega) (by omega)
  have HY := Lib.hid fun W => chap_any 1 oth v W (by omega) (by omega)
  have Hv0 := Lib.hid hv0
  have G1 := Lib.hid g1
  have G2 := Lib.hid g2
  have Hpl := Lib.hid hpl
  have K1 := Lib.hid k1
  have K2 := Lib.hid k2
  have K3 := Lib.hid k3
  have Hn := Lib.hid hn
  have Hs := Lib.hid hs
  obtain ⟨M, hM⟩ : ∃ M, md5 (chapL 1 sec v) = M := ⟨_, rfl⟩
  rw [hM] at HX K1 K2 K3
  have HM := Lib.hid hM
  obtain ⟨M2, hM2⟩ : ∃ M, md5 (chapL 1 oth v) = M := ⟨_, rfl⟩
  rw [hM2] at HY
  have HM2 := Lib.hid hM2
  obtain ⟨PL, hPL⟩ : ∃ l, pvL v [115, 114, 118] = l := ⟨_, rfl⟩
  rw [hPL] at G1 G2 Hpl
  have HPL := Lib.hid hPL
  obtain ⟨QL, hQL⟩ : ∃ l, pvL M nm = l := ⟨_, rfl⟩
  rw [hQL] at K1 K2 K3
  have HQL := Lib.hid hQL
  obtain ⟨cc, hcc⟩ : ∃ c : Int, (if good = true then 3 else 4) = c := ⟨_, rfl⟩
  have hc1 : (cc == 1) = false := by rw [← hcc]; cases good <;> rfl
  have hc2 : (cc == 3) = true ∨ (cc == 3) = false ∧ (cc == 4) = true := by rw [← hcc]; cases good <;> simp
  have hc3 : (cc == 3) = good := by rw [← hcc]; cases good <;> rfl
  have Hcc := Lib.hid hcc
  have Hc1 := Lib.hid hc1
  have Hc2 := Lib.hid hc2
  have Hc3 := Lib.hid hc3
  clear hM hM2 hPL hQL hcc hc1 hc2 hc3
  clear hv0 g1 g2 g3 hpl hm k1 k2 k3
  go_enter Try.func5, Try.ntmps5
  go_wp2_with fail
  refine S.out.mono ?_
  rintro e w1 ⟨gs, rfl, hgs, hS1, hF1⟩
  go_wp2_with fail
  refine (C.out _).mono ?_
  rintro e w2 ⟨gc, rfl, hgc, hC2, hF2⟩
  have hS2 := hF2.blk hS1 (by simp)
  have hgs1 := hS1.lt
  have hne : gs ≠ gc := by omega
  have hFa := hF1.trans hF2
  have hz1 := hF1.size
  clear S C hS1 hF1 hF2
  have HT := Lib.hid (sstart_any (w := w2) (by decide) (by decide) v Hv0.out (by decide) hS2)
  go_wp2_with fail
  refine HT.out.mono ?_
  rintro e w3 ⟨gp, rfl, hgp, hgpl, hP3, hS3, hF3⟩
  have hgc2 := hC2.lt
  have hC3 := hF3.blk hC2 (by simp; omega)
  have hFb := hFa.sub hF3 (fun z hz => by simp at hz; subst hz; right; omega)
  clear HT hS2 hC2 hFa hF3
  rw [show ((0 : Int) + 1) % 256 = 1 from rfl] at hP3 hS3
  rw [HPL.out] at hP3
  obtain ⟨p0, p1, p2, p3⟩ := id hP3
  have HU := Lib.hid (ctake_chal (w := w3) 1 none 0 0 PL G1.out (by have := Hpl.out; omega) Hn.out Hs.out hC3)
  rw [G2.out] at HU
  unfold CSay at HU
  rw [HM.out, HQL.out] at HU
  go_wp2_with fail
  refine HU.out.mono ?_
  rintro e w4 ⟨gq, rfl, hgq, hgql, hQ4, hC4, hF4⟩
  have hS4 := hF4.blk hS3 (by simp; omega)
  have hP4 := hP3.fr hF4 hgpl (by simp; omega)
  have hgp4 : gp < w4.heap.size := by have := hF4.size; omega
  have hFc := hFb.sub hF4 (fun z hz => by simp at hz; subst hz; right; omega)
  have hz3 := hFb.size
  clear HU hS3 hC3 hFb hF4 hP3 p0 p1 p2 p3
  obtain ⟨p0, p1, p2, p3⟩ := id hQ4
  have HV := Lib.hid (stake_ok (w := w4) 1 none 0 0 QL K1.out (by decide) (by decide) (by decide) (by decide) hS4)
  rw [K2.out, K3.out] at HV
  go_wp2_with fail
  refine HV.out.mono ?_
  rintro e w5 ⟨rfl, hS5, hF5⟩
  have hC5 := hF5.blk hC4 (by simp; omega)
  have hP5 := hP4.fr hF5 hgp4 (by simp; omega)
  have hQ5 := hQ4.fr hF5 hgql (by simp; omega)
  have hFd := hFc.sub hF5 (fun z hz => by simp at hz; subst hz; right; omega)
  have hz5 := hFd.size
  have hz45 := hF5.size
  have hgc5 := hC5.lt
  have hgs5 := hS5.lt
  have hgp5 : gp < w5.heap.size := by omega
  have hgq5 : gq < w5.heap.size := by omega
  clear HV hS4 hC4 hFc hF5 hP4 hQ4 p0 p1 p2 p3
  go_wp2_with (refine wpList_store_blk rfl 39 (.tmp 17) (.tmp 95) rfl w5.heap.size 39 clz (clm nm v M 1) ?k0 rfl rfl rfl (by kernel_rfl) (clm_one _ _ _ _) ?_)
  case k0 => exact Blk.new _ _ _
  intro w6 hw6 hQ6
  have hR : Rest w w5.heap.size gs gc gp gq nm v M PL QL (csv [115, 114, 118] 2 3 1 v false true 0 0 false false none 0 0) (ccl nm sec true true 1 false false) w6 := by
    refine ⟨hQ6, ?_, ?_, ⟨?_, ?_⟩, ⟨?_, ?_⟩, ?_⟩
    · rw [hw6.out]; exact (hS5.alloc (.cells clz 39)).setCells_other w5.heap.size 0 (clm nm v M 1).toList (by omega)
    · rw [hw6.out]; exact (hC5.alloc (.cells clz 39)).setCells_other w5.heap.size 0 (clm nm v M 1).toList (by omega)
    · have hF : Fr [] w5 w6 := by rw [hw6.out]; exact ((Fr.refl _ _).alloc _).setCells _ _ _ (Or.inl (Nat.le_refl _))
      exact hP5.fr hF hgp5 (by simp)
    · have hF : Fr [] w5 w6 := by rw [hw6.out]; exact ((Fr.refl _ _).alloc _).setCells _ _ _ (Or.inl (Nat.le_refl _))
      have := hF.size; omega
    · have hF : Fr [] w5 w6 := by rw [hw6.out]; exact ((Fr.refl _ _).alloc _).setCells _ _ _ (Or.inl (Nat.le_refl _))
      exact hQ5.fr hF hgq5 (by simp)
    · have hF : Fr [] w5 w6 := by rw [hw6.out]; exact ((Fr.refl _ _).alloc _).setCells _ _ _ (Or.inl (Nat.le_refl _))
      have := hF.size; omega
    · rw [hw6.out]; exact (hFd.alloc _).setCells _ _ _ (Or.inl hz5)
  obtain ⟨q, hq⟩ : ∃ q, w5.heap.size = q := ⟨_, rfl⟩
  rw [hq] at hR hz5 hgc5 hgs5 hgp5 hgq5 ⊢
  clear hw6 hS5 hC5 hFd hq hP5 hQ5 hQ6 hz45
  have HD := Lib.hid (sdone_any (by decide) hR.2.1)
  go_wp2_with fail
  refine HD.out.mono ?_
  rintro e w7 ⟨rfl, hF7⟩
  have hR7 := hR.on hF7
  clear HD hR hF7
  go_wp2_with fail
  have hG := (hR7.on (Fr.refl [] w7).drew).cells
  clear hR7
  go_region_held3 (fun w' => (w'.cell? ⟨q, 0, none⟩ = some (.string (B nm)) ∧ w'.cell? ⟨q, 2, none⟩ = some (.string (B M)) ∧ w'.cell? ⟨gp, 1, none⟩ = some (.int .i64 1)) ∧ Rest w q gs gc gp gq nm v M PL QL (csv [115, 114, 118] 2 3 1 v false true 0 0 false false none 0 0) (ccl nm sec true true 1 false false) w')
    (first | exact hG | assumption | exact Rest.step (by assumption) (by assumption))
    (first | (go_at_call 20; refine (HX.out _).mono ?_; rintro e w3 ⟨rfl, hF3⟩))
  have hR8 : Rest w q gs gc gp gq nm v M PL QL (csv [115, 114, 118] 2 3 1 v false true 0 0 false false none 0 0) (ccl nm sec true true 1 false false) w3 := by
    have h : (w3.cell? ⟨q, 0, none⟩ = some (.string (B nm)) ∧ w3.cell? ⟨q, 2, none⟩ = some (.string (B M)) ∧ w3.cell? ⟨gp, 1, none⟩ = some (.int .i64 1)) ∧ Rest w q gs gc gp gq nm v M PL QL (csv [115, 114, 118] 2 3 1 v false true 0 0 false false none 0 0) (ccl nm sec true true 1 false false) w3 := by assumption
    exact h.2
  clear hG
  go_wp2_with fail
  go_upto_if 169 with fail
  go_cut [169] (fun bv wx => bv = .bool false ∧ Rest w q gs gc gp gq nm v M PL QL (csv [115, 114, 118] 2 3 1 v false true 0 0 false false none 0 0) (ccl nm sec true true 1 false false) wx)
  case first =>
    have hG := (hR8.on (Fr.refl [] w3).drew).cells
    clear hR8
    by_cases hMM : M = M2
    · as_aux_lemma =>
        subst hMM
        by_cases hso : sec = oth
        · as_aux_lemma =>
            subst hso
            refine wp_region_held_drew (S := (fun w' => (w'.cell? ⟨q, 0, none⟩ = some (.string (B nm)) ∧ w'.cell? ⟨q, 2, none⟩ = some (.string (B M)) ∧ w'.cell? ⟨gp, 1, none⟩ = some (.int .i64 1)) ∧ Rest w q gs gc gp gq nm v M PL QL (csv [115, 114, 118] 2 3 1 v false true 0 0 false false none 0 0) (ccl nm sec true true 1 false false) w')) (by kernel_rfl) ?_ (fun hHeld => ?_)
            · (try dsimp only); exact hG
            refine take_yes 0 128 rfl rfl (by kernel_rfl) (by kernel_rfl) (by kernel_rfl) (fun _ _ _ h => h) (by rfl) (by assumption) (v := ?_) ?_ ?_
            rotate_left
            · intro w hSw; (try dsimp only at hSw); go_simp; (try with_reducible rfl)
            try simp only [Act.put, List.setIfInBounds_toArray, List.set_cons_zero, List.set_cons_succ]
            refine take_yes 1 129 rfl rfl (by kernel_rfl) (by kernel_rfl) (by kernel_rfl) (fun _ _ _ h => h) (by rfl) (by assumption) (v := ?_) ?_ ?_
            rotate_left
            · intro w hSw; (try dsimp only at hSw); go_simp; (try with_reducible rfl)
            try simp only [Act.put, List.setIfInBounds_toArray, List.set_cons_zero, List.set_cons_succ]
            refine take_yes 2 130 rfl rfl (by kernel_rfl) (by kernel_rfl) (by kernel_rfl) (fun _ _ _ h => h) (by rfl) (by assumption) (v := ?_) ?_ ?_
            rotate_left
            · intro w hSw; (try dsimp only at hSw); go_simp; (try with_reducible rfl)
            try simp only [Act.put, List.setIfInBounds_toArray, List.set_cons_zero, List.set_cons_succ]
            refine take_yes 3 131 rfl rfl (by kernel_rfl) (by kernel_rfl) (by kernel_rfl) (fun _ _ _ h => h) (by rfl) (by assumption) (v := ?_) ?_ ?_
            rotate_left
            · intro w hSw; (try dsimp only at hSw); go_simp; (try with_reducible rfl)
            try simp only [Act.put, List.setIfInBounds_toArray, List.set_cons_zero, List.set_cons_succ]
            refine take_yes 4 132 rfl rfl (by kernel_rfl) (by kernel_rfl) (by kernel_rfl) (fun _ _ _ h => h) (by rfl) (by assumption) (v := ?_) ?_ ?_
            rotate_left
            · intro w hSw; (try dsimp only at hSw); go_simp; (try with_reducible rfl)
            try simp only [Act.put, List.setIfInBounds_toArray, List.set_cons_zero, List.set_cons_succ]
            refine take_yes 5 133 rfl rfl (by kernel_rfl) (by kernel_rfl) (by kernel_rfl) (fun _ _ _ h => h) (by rfl) (by assumption) (v := ?_) ?_ ?_
            rotate_left
            · intro w hSw; (try dsimp only at hSw); go_simp; (try with_reducible rfl)
            try simp only [Act.put, List.setIfInBounds_toArray, List.set_cons_zero, List.set_cons_succ]
            refine take_yes 6 134 rfl rfl (by kernel_rfl) (by kernel_rfl) (by kernel_rfl) (fun _ _ _ h => h) (by rfl) (by assumption) (v := ?_) ?_ ?_
            rotate_left
            · intro w hSw; (try dsimp only at hSw); go_simp; (try with_reducible rfl)
            try simp only [Act.put, List.setIfInBounds_toArray, List.set_cons_zero, List.set_cons_succ]
            refine take_yes 7 135 rfl rfl (by kernel_rfl) (by kernel_rfl) (by kernel_rfl) (fun _ _ _ h => h) (by rfl) (by assumption) (v := ?_) ?_ ?_
            rotate_left
            · intro w hSw; (try dsimp only at hSw); go_simp; (try with_reducible rfl)
            try simp only [Act.put, List.setIfInBounds_toArray, List.set_cons_zero, List.set_cons_succ]
            refine wpAnyH_ready (rs := [8]) (by kernel_rfl) (by simp) ?_
            refine AllReadyH.cons (o := _) rfl (fun K hK => ?_) AllReadyH.nil
            go_simp
            refine (HY.out _).mono ?_
            rintro r w8 ⟨rfl, hF8⟩
            go_wp2_with fail
            refine hK.out _ _ ?_ (fun hHeld => ?_)
            · (try dsimp only); first | assumption | exact Rest.step (by assumption) (by assumption)
            clear hK K
            try simp only [Act.put, List.setIfInBounds_toArray, List.set_cons_zero, List.set_cons_succ]
            refine take_yes 9 137 rfl rfl (by kernel_rfl) (by kernel_rfl) (by kernel_rfl) (fun _ _ _ h => h) (by rfl) (by assumption) (v := ?_) ?_ ?_
            rotate_left
            · intro w hSw; (try dsimp only at hSw); go_simp; (try with_reducible rfl)
            try simp only [Act.put, List.setIfInBounds_toArray, List.set_cons_zero, List.set_cons_succ]
            refine take_yes 10 138 rfl rfl (by kernel_rfl) (by kernel_rfl) (by kernel_rfl) (fun _ _ _ h => h) (by rfl) (by assumption) (v := ?_) ?_ ?_
            rotate_left
            · intro w hSw; (try dsimp only at hSw); go_simp; (try with_reducible rfl)
            try simp only [Act.put, List.setIfInBounds_toArray, List.set_cons_zero, List.set_cons_succ]
            refine take_yes 11 139 rfl rfl (by kernel_rfl) (by kernel_rfl) (by kernel_rfl) (fun _ _ _ h => h) (by rfl) (by assumption) (v := ?_) ?_ ?_
            rotate_left
            · intro w hSw; (try dsimp only at hSw); go_simp; (try with_reducible rfl)
            try simp only [Act.put, List.setIfInBounds_toArray, List.set_cons_zero, List.set_cons_succ]
            refine take_yes 12 140 rfl rfl (by kernel_rfl) (by kernel_rfl) (by kernel_rfl) (fun _ _ _ h => h) (by rfl) (by assumption) (v := ?_) ?_ ?_
            rotate_left
            · intro w hSw; (try dsimp only at hSw); go_simp; (try with_reducible rfl)
            try simp only [Act.put, List.setIfInBounds_toArray, List.set_cons_zero, List.set_cons_succ]
            refine take_yes 13 141 rfl rfl (by kernel_rfl) (by kernel_rfl) (by kernel_rfl) (fun _ _ _ h => h) (by rfl) (by assumption) (v := ?_) ?_ ?_
            rotate_left
            · intro w hSw; (try dsimp only at hSw); go_simp; (try with_reducible rfl)
            try simp only [Act.put, List.setIfInBounds_toArray, List.set_cons_zero, List.set_cons_succ]
            refine take_yes 14 142 rfl rfl (by kernel_rfl) (by kernel_rfl) (by kernel_rfl) (fun _ _ _ h => h) (by rfl) (by assumption) (v := ?_) ?_ ?_
            rotate_left
            · intro w hSw; (try dsimp only at hSw); go_simp; (try with_reducible rfl)
            try simp only [Act.put, List.setIfInBounds_toArray, List.set_cons_zero, List.set_cons_succ]
            refine take_yes 15 143 rfl rfl (by kernel_rfl) (by kernel_rfl) (by kernel_rfl) (fun _ _ _ h => h) (by rfl) (by assumption) (v := ?_) ?_ ?_
            rotate_left
            · intro w hSw; (try dsimp only at hSw); go_simp; (try with_reducible rfl)
            try simp only [Act.put, List.setIfInBounds_toArray, List.set_cons_zero, List.set_cons_succ]
            refine take_no 16 144 rfl rfl (by kernel_rfl) (by kernel_rfl) (by kernel_rfl) (fun _ _ _ h => h) (by rfl) (by assumption) ?_
            try simp only [Act.put, List.setIfInBounds_toArray, List.set_cons_zero, List.set_cons_succ]
            refine take_no 17 145 rfl rfl (by kernel_rfl) (by kernel_rfl) (by kernel_rfl) (fun _ _ _ h => h) (by rfl) (by assumption) ?_
            try simp only [Act.put, List.setIfInBounds_toArray, List.set_cons_zero, List.set_cons_succ]
            refine take_no 18 146 rfl rfl (by kernel_rfl) (by kernel_rfl) (by kernel_rfl) (fun _ _ _ h => h) (by rfl) (by assumption) ?_
            try simp only [Act.put, List.setIfInBounds_toArray, List.set_cons_zero, List.set_cons_succ]
            refine take_no 19 147 rfl rfl (by kernel_rfl) (by kernel_rfl) (by kernel_rfl) (fun _ _ _ h => h) (by rfl) (by assumption) ?_
            try simp only [Act.put, List.setIfInBounds_toArray, List.set_cons_zero, List.set_cons_succ]
            refine take_no 20 148 rfl rfl (by kernel_rfl) (by kernel_rfl) (by kernel_rfl) (fun _ _ _ h => h) (by rfl) (by assumption) ?_
            try simp only [Act.put, List.setIfInBounds_toArray, List.set_cons_zero, List.set_cons_succ]
            refine take_no 21 149 rfl rfl (by kernel_rfl) (by kernel_rfl) (by kernel_rfl) (fun _ _ _ h => h) (by rfl) (by assumption) ?_
            try simp only [Act.put, List.setIfInBounds_toArray, List.set_cons_zero, List.set_cons_succ]
            refine take_no 22 150 rfl rfl (by kernel_rfl) (by kernel_rfl) (by kernel_rfl) (fun _ _ _ h => h) (by rfl) (by assumption) ?_
            try simp only [Act.put, List.setIfInBounds_toArray, List.set_cons_zero, List.set_cons_succ]
            refine take_no 23 151 rfl rfl (by kernel_rfl) (by kernel_rfl) (by kernel_rfl) (fun _ _ _ h => h) (by rfl) (by assumption) ?_
            try simp only [Act.put, List.setIfInBounds_toArray, List.set_cons_zero, List.set_cons_succ]
            refine take_no 24 152 rfl rfl (by kernel_rfl) (by kernel_rfl) (by kernel_rfl) (fun _ _ _ h => h) (by rfl) (by assumption) ?_
            try simp only [Act.put, List.setIfInBounds_toArray, List.set_cons_zero, List.set_cons_succ]
            refine take_no 25 153 rfl rfl (by kernel_rfl) (by kernel_rfl) (by kernel_rfl) (fun _ _ _ h => h) (by rfl) (by assumption) ?_
            try simp only [Act.put, List.setIfInBounds_toArray, List.set_cons_zero, List.set_cons_succ]
            refine take_no 26 154 rfl rfl (by kernel_rfl) (by kernel_rfl) (by kernel_rfl) (fun _ _ _ h => h) (by rfl) (by assumption) ?_
            try simp only [Act.put, List.setIfInBounds_toArray, List.set_cons_zero, List.set_cons_succ]
            refine take_no 27 155 rfl rfl (by kernel_rfl) (by kernel_rfl) (by kernel_rfl) (fun _ _ _ h => h) (by rfl) (by assumption) ?_
            try simp only [Act.put, List.setIfInBounds_toArray, List.set_cons_zero, List.set_cons_succ]
            refine take_no 28 156 rfl rfl (by kernel_rfl) (by kernel_rfl) (by kernel_rfl) (fun _ _ _ h => h) (by rfl) (by assumption) ?_
            try simp only [Act.put, List.setIfInBounds_toArray, List.set_cons_zero, List.set_cons_succ]
            refine take_no 29 157 rfl rfl (by kernel_rfl) (by kernel_rfl) (by kernel_rfl) (fun _ _ _ h => h) (by rfl) (by assumption) ?_
            try simp only [Act.put, List.setIfInBounds_toArray, List.set_cons_zero, List.set_cons_succ]
            refine take_no 30 158 rfl rfl (by kernel_rfl) (by kernel_rfl) (by kernel_rfl) (fun _ _ _ h => h) (by rfl) (by assumption) ?_
            try simp only [Act.put, List.setIfInBounds_toArray, List.set_cons_zero, List.set_cons_succ]
            refine take_no 31 159 rfl rfl (by kernel_rfl) (by kernel_rfl) (by kernel_rfl) (fun _ _ _ h => h) (by rfl) (by assumption) ?_
            try simp only [Act.put, List.setIfInBounds_toArray, List.set_cons_zero, List.set_cons_succ]
            refine take_no 32 160 rfl rfl (by kernel_rfl) (by kernel_rfl) (by kernel_rfl) (fun _ _ _ h => h) (by rfl) (by assumption) ?_
            try simp only [Act.put, List.setIfInBounds_toArray, List.set_cons_zero, List.set_cons_succ]
            refine take_no 33 161 rfl rfl (by kernel_rfl) (by kernel_rfl) (by kernel_rfl) (fun _ _ _ h => h) (by rfl) (by assumption) ?_
            try simp only [Act.put, List.setIfInBounds_toArray, List.set_cons_zero, List.set_cons_succ]
            refine take_no 34 162 rfl rfl (by kernel_rfl) (by kernel_rfl) (by kernel_rfl) (fun _ _ _ h => h) (by rfl) (by assumption) ?_
            try simp only [Act.put, List.setIfInBounds_toArray, List.set_cons_zero, List.set_cons_succ]
            refine take_no 35 163 rfl rfl (by kernel_rfl) (by kernel_rfl) (by kernel_rfl) (fun _ _ _ h => h) (by rfl) (by assumption) ?_
            try simp only [Act.put, List.setIfInBounds_toArray, List.set_cons_zero, List.set_cons_succ]
            refine take_no 36 164 rfl rfl (by kernel_rfl) (by kernel_rfl) (by kernel_rfl) (fun _ _ _ h => h) (by rfl) (by assumption) ?_
            try simp only [Act.put, List.setIfInBounds_toArray, List.set_cons_zero, List.set_cons_succ]
            refine take_no 37 165 rfl rfl (by kernel_rfl) (by kernel_rfl) (by kernel_rfl) (fun _ _ _ h => h) (by rfl) (by assumption) ?_
            try simp only [Act.put, List.setIfInBounds_toArray, List.set_cons_zero, List.set_cons_succ]
            refine take_no 38 166 rfl rfl (by kernel_rfl) (by kernel_rfl) (by kernel_rfl) (fun _ _ _ h => h) (by rfl) (by assumption) ?_
            try simp only [Act.put, List.setIfInBounds_toArray, List.set_cons_zero, List.set_cons_succ]
            refine take_no 39 167 rfl rfl (by kernel_rfl) (by kernel_rfl) (by kernel_rfl) (fun _ _ _ h => h) (by rfl) (by assumption) ?_
            try simp only [Act.put, List.setIfInBounds_toArray, List.set_cons_zero, List.set_cons_succ]
            refine take_no 40 168 rfl rfl (by kernel_rfl) (by kernel_rfl) (by kernel_rfl) (fun _ _ _ h => h) (by rfl) (by assumption) ?_
            try simp only [Act.put, List.setIfInBounds_toArray, List.set_cons_zero, List.set_cons_succ]
            refine take_yes 41 169 rfl rfl (by kernel_rfl) (by kernel_rfl) (by kernel_rfl) (fun _ _ _ h => h) (by rfl) (by assumption) (v := ?_) ?_ ?_
            rotate_left
            · intro w hSw; (try dsimp only at hSw); go_simp; (try with_reducible rfl)
            try simp only [Act.put, List.setIfInBounds_toArray, List.set_cons_zero, List.set_cons_succ]
            refine wpAnyH_done (by kernel_rfl) ?_ _
            clear hG HX HY
            go_wp2
            go_meet
            exact ⟨rfl, hHeld.2⟩
        · as_aux_lemma =>
            skip
            have hs0 : ¬ B sec = B oth := fun h => hso (B_inj.mp h)
            have hs1 : (B sec == B oth) = false := by show ((B sec).data == (B oth).data) = false; rw [beq_eq_false_iff_ne]; exact fun h => hs0 (ByteArray.ext h)
            have hs2 : (B sec != B oth) = true := by simp only [bne, hs1]; rfl
            obtain ⟨bl, hbl⟩ : ∃ l, bytesOf [1] = l := ⟨_, rfl⟩
            have hb1 : bl.length = 1 := by rw [← hbl]; rfl
            have Hbl := Lib.hid hbl
            have hc1 : bl ++ (sec ++ v) = chapL 1 sec v := by rw [← hbl]; rfl
            have hc2 : bl ++ (oth ++ v) = chapL 1 oth v := by rw [← hbl]; rfl
            have H1 : Hid (∀ W : World, Calls Try.prog 21 #[.string (B (bl ++ (sec ++ v)))] W fun e w' => e = .returned (.agg (arr8 M)) ∧ Fr [] W w') := Lib.hid fun W => by rw [hc1, ← HM.out]; exact md5_any (chapL 1 sec v) W (by rw [chapL_length]; omega)
            have H2 : Hid (∀ W : World, Calls Try.prog 21 #[.string (B (bl ++ (oth ++ v)))] W fun e w' => e = .returned (.agg (arr8 M)) ∧ Fr [] W w') := Lib.hid fun W => by rw [hc2, ← HM2.out]; exact md5_any (chapL 1 oth v) W (by rw [chapL_length]; omega)
            have heq : ∀ W : World, (Op.equalIn 10000 50 (.agg (arr8 M)) (.agg (arr8 M))).run Try.prog W = .ok true W := fun W => eqB_refl M (by rw [← HM.out]; exact md5_length _) W
            clear hbl hc1 hc2
            have hq12 : ¬ 9223372036854775807 < 1 + sec.length := by omega
            have hq13 : ¬ 9223372036854775807 < 1 + sec.length + v.length := by omega
            have hq14 : ¬ 9223372036854775807 < 1 + oth.length := by omega
            have hq15 : ¬ 9223372036854775807 < 1 + oth.length + v.length := by omega
            have hq16 : ¬ 9223372036854775807 < 1 + (sec.length + v.length) := by omega
            have hq17 : ¬ 9223372036854775807 < 1 + (oth.length + v.length) := by omega
            have hq18 : ¬ 9223372036854775807 < sec.length + v.length := by omega
            have hq19 : ¬ 9223372036854775807 < oth.length + v.length := by omega
            refine wp_region_held_drew (S := (fun w' => (w'.cell? ⟨q, 0, none⟩ = some (.string (B nm)) ∧ w'.cell? ⟨q, 2, none⟩ = some (.string (B M)) ∧ w'.cell? ⟨gp, 1, none⟩ = some (.int .i64 1)) ∧ Rest w q gs gc gp gq nm v M PL QL (csv [115, 114, 118] 2 3 1 v false true 0 0 false false none 0 0) (ccl nm sec true true 1 false false) w')) (by kernel_rfl) ?_ (fun hHeld => ?_)
            · (try dsimp only); exact hG
            refine take_yes 0 128 rfl rfl (by kernel_rfl) (by kernel_rfl) (by kernel_rfl) (fun _ _ _ h => h) (by rfl) (by assumption) (v := ?_) ?_ ?_
            rotate_left
            · intro w hSw; (try dsimp only at hSw); go_simp; (try with_reducible rfl)
            try simp only [Act.put, List.setIfInBounds_toArray, List.set_cons_zero, List.set_cons_succ]
            refine take_yes 1 129 rfl rfl (by kernel_rfl) (by kernel_rfl) (by kernel_rfl) (fun _ _ _ h => h) (by rfl) (by assumption) (v := ?_) ?_ ?_
            rotate_left
            · intro w hSw; (try dsimp only at hSw); go_simp; (try with_reducible rfl)
            try simp only [Act.put, List.setIfInBounds_toArray, List.set_cons_zero, List.set_cons_succ]
            refine take_yes 2 130 rfl rfl (by kernel_rfl) (by kernel_rfl) (by kernel_rfl) (fun _ _ _ h => h) (by rfl) (by assumption) (v := ?_) ?_ ?_
            rotate_left
            · intro w hSw; (try dsimp only at hSw); go_simp; (try with_reducible rfl)
            try simp only [Act.put, List.setIfInBounds_toArray, List.set_cons_zero, List.set_cons_succ]
            refine take_yes 3 131 rfl rfl (by kernel_rfl) (by kernel_rfl) (by kernel_rfl) (fun _ _ _ h => h) (by rfl) (by assumption) (v := ?_) ?_ ?_
            rotate_left
            · intro w hSw; (try dsimp only at hSw); go_simp; (try with_reducible rfl)
            try simp only [Act.put, List.setIfInBounds_toArray, List.set_cons_zero, List.set_cons_succ]
            refine take_yes 4 132 rfl rfl (by kernel_rfl) (by kernel_rfl) (by kernel_rfl) (fun _ _ _ h => h) (by rfl) (by assumption) (v := ?_) ?_ ?_
            rotate_left
            · intro w hSw; (try dsimp only at hSw); go_simp; (try with_reducible rfl)
            try simp only [Act.put, List.setIfInBounds_toArray, List.set_cons_zero, List.set_cons_succ]
            refine take_yes 5 133 rfl rfl (by kernel_rfl) (by kernel_rfl) (by kernel_rfl) (fun _ _ _ h => h) (by rfl) (by assumption) (v := ?_) ?_ ?_
            rotate_left
            · intro w hSw; (try dsimp only at hSw); go_simp; (try with_reducible rfl)
            try simp only [Act.put, List.setIfInBounds_toArray, List.set_cons_zero, List.set_cons_succ]
            refine take_yes 6 134 rfl rfl (by kernel_rfl) (by kernel_rfl) (by kernel_rfl) (fun _ _ _ h => h) (by rfl) (by assumption) (v := ?_) ?_ ?_
            rotate_left
            · intro w hSw; (try dsimp only at hSw); go_simp; (try with_reducible rfl)
            try simp only [Act.put, List.setIfInBounds_toArray, List.set_cons_zero, List.set_cons_succ]
            refine take_yes 7 135 rfl rfl (by kernel_rfl) (by kernel_rfl) (by kernel_rfl) (fun _ _ _ h => h) (by rfl) (by assumption) (v := ?_) ?_ ?_
            rotate_left
            · intro w hSw; (try dsimp only at hSw); go_simp; (try with_reducible rfl)
            try simp only [Act.put, List.setIfInBounds_toArray, List.set_cons_zero, List.set_cons_succ]
            refine wpAnyH_ready (rs := [8]) (by kernel_rfl) (by simp) ?_
            refine AllReadyH.cons (o := _) rfl (fun K hK => ?_) AllReadyH.nil
            go_simp
            refine (HY.out _).mono ?_
            rintro r v0' ⟨rfl, hF8⟩
            go_wp2_with fail
            refine hK.out _ _ ?_ (fun hHeld => ?_)
            · (try dsimp only); first | assumption | exact Rest.step (by assumption) (by assumption)
            clear hK K
            try simp only [Act.put, List.setIfInBounds_toArray, List.set_cons_zero, List.set_cons_succ]
            refine take_yes 9 137 rfl rfl (by kernel_rfl) (by kernel_rfl) (by kernel_rfl) (fun _ _ _ h => h) (by rfl) (by assumption) (v := ?_) ?_ ?_
            rotate_left
            · intro w hSw; (try dsimp only at hSw); go_simp; (try with_reducible rfl)
            try simp only [Act.put, List.setIfInBounds_toArray, List.set_cons_zero, List.set_cons_succ]
            refine take_yes 10 138 rfl rfl (by kernel_rfl) (by kernel_rfl) (by kernel_rfl) (fun _ _ _ h => h) (by rfl) (by assumption) (v := ?_) ?_ ?_
            rotate_left
            · intro w hSw; (try dsimp only at hSw); go_simp; (try with_reducible rfl)
            try simp only [Act.put, List.setIfInBounds_toArray, List.set_cons_zero, List.set_cons_succ]
            refine take_yes 11 139 rfl rfl (by kernel_rfl) (by kernel_rfl) (by kernel_rfl) (fun _ _ _ h => h) (by rfl) (by assumption) (v := ?_) ?_ ?_
            rotate_left
            · intro w hSw; (try dsimp only at hSw); go_simp; (try with_reducible rfl)
            try simp only [Act.put, List.setIfInBounds_toArray, List.set_cons_zero, List.set_cons_succ]
            refine take_yes 12 140 rfl rfl (by kernel_rfl) (by kernel_rfl) (by kernel_rfl) (fun _ _ _ h => h) (by rfl) (by assumption) (v := ?_) ?_ ?_
            rotate_left
            · intro w hSw; (try dsimp only at hSw); go_simp; (try with_reducible rfl)
            try simp only [Act.put, List.setIfInBounds_toArray, List.set_cons_zero, List.set_cons_succ]
            refine take_yes 13 141 rfl rfl (by kernel_rfl) (by kernel_rfl) (by kernel_rfl) (fun _ _ _ h => h) (by rfl) (by assumption) (v := .bool true) ?_ ?_
            · intro w hSw; (try dsimp only at hSw); go_simp; skip
            try simp only [Act.put, List.setIfInBounds_toArray, List.set_cons_zero, List.set_cons_succ]
            refine take_yes 14 142 rfl rfl (by kernel_rfl) (by kernel_rfl) (by kernel_rfl) (fun _ _ _ h => h) (by rfl) (by assumption) (v := ?_) ?_ ?_
            rotate_left
            · intro w hSw; (try dsimp only at hSw); go_simp; (try with_reducible rfl)
            try simp only [Act.put, List.setIfInBounds_toArray, List.set_cons_zero, List.set_cons_succ]
            refine take_yes 15 143 rfl rfl (by kernel_rfl) (by kernel_rfl) (by kernel_rfl) (fun _ _ _ h => h) (by rfl) (by assumption) (v := ?_) ?_ ?_
            rotate_left
            · intro w hSw; (try dsimp only at hSw); go_simp; (try with_reducible rfl)
            try simp only [Act.put, List.setIfInBounds_toArray, List.set_cons_zero, List.set_cons_succ]
            refine take_yes 16 144 rfl rfl (by kernel_rfl) (by kernel_rfl) (by kernel_rfl) (fun _ _ _ h => h) (by rfl) (by assumption) (v := ?_) ?_ ?_
            rotate_left
            · intro w hSw; (try dsimp only at hSw); go_simp; (try with_reducible rfl)
            try simp only [Act.put, List.setIfInBounds_toArray, List.set_cons_zero, List.set_cons_succ]
            refine take_yes 17 145 rfl rfl (by kernel_rfl) (by kernel_rfl) (by kernel_rfl) (fun _ _ _ h => h) (by rfl) (by assumption) (v := ?_) ?_ ?_
            rotate_left
            · intro w hSw; (try dsimp only at hSw); go_simp; (try with_reducible rfl)
            try simp only [Act.put, List.setIfInBounds_toArray, List.set_cons_zero, List.set_cons_succ]
            refine take_yes 18 146 rfl rfl (by kernel_rfl) (by kernel_rfl) (by kernel_rfl) (fun _ _ _ h => h) (by rfl) (by assumption) (v := ?_) ?_ ?_
            rotate_left
            · intro w hSw; (try dsimp only at hSw); go_simp; (try with_reducible rfl)
            try simp only [Act.put, List.setIfInBounds_toArray, List.set_cons_zero, List.set_cons_succ]
            refine take_yes 19 147 rfl rfl (by kernel_rfl) (by kernel_rfl) (by kernel_rfl) (fun _ _ _ h => h) (by rfl) (by assumption) (v := ?_) ?_ ?_
            rotate_left
            · intro w hSw; (try dsimp only at hSw); go_simp; (try with_reducible rfl)
            try simp only [Act.put, List.setIfInBounds_toArray, List.set_cons_zero, List.set_cons_succ]
            refine take_yes 20 148 rfl rfl (by kernel_rfl) (by kernel_rfl) (by kernel_rfl) (fun _ _ _ h => h) (by rfl) (by assumption) (v := ?_) ?_ ?_
            rotate_left
            · intro w hSw; (try dsimp only at hSw); go_simp; (try with_reducible rfl)
            try simp only [Act.put, List.setIfInBounds_toArray, List.set_cons_zero, List.set_cons_succ]
            refine take_yes 23 151 rfl rfl (by kernel_rfl) (by kernel_rfl) (by kernel_rfl) (fun _ _ _ h => h) (by rfl) (by assumption) (v := ?_) ?_ ?_
            rotate_left
            · intro w hSw; (try dsimp only at hSw); go_simp; (try with_reducible rfl)
            try simp only [Act.put, List.setIfInBounds_toArray, List.set_cons_zero, List.set_cons_succ]
            refine take_yes 25 153 rfl rfl (by kernel_rfl) (by kernel_rfl) (by kernel_rfl) (fun _ _ _ h => h) (by rfl) (by assumption) (v := ?_) ?_ ?_
            rotate_left
            · intro w hSw; (try dsimp only at hSw); go_simp; (try with_reducible rfl)
            try simp only [Act.put, List.setIfInBounds_toArray, List.set_cons_zero, List.set_cons_succ]
            refine take_yes 28 156 rfl rfl (by kernel_rfl) (by kernel_rfl) (by kernel_rfl) (fun _ _ _ h => h) (by rfl) (by assumption) (v := ?_) ?_ ?_
            rotate_left
            · intro w hSw; (try dsimp only at hSw); go_simp; (try with_reducible rfl)
            try simp only [Act.put, List.setIfInBounds_toArray, List.set_cons_zero, List.set_cons_succ]
            refine take_yes 29 157 rfl rfl (by kernel_rfl) (by kernel_rfl) (by kernel_rfl) (fun _ _ _ h => h) (by rfl) (by assumption) (v := ?_) ?_ ?_
            rotate_left
            · intro w hSw; (try dsimp only at hSw); go_simp; (try with_reducible rfl)
            try simp only [Act.put, List.setIfInBounds_toArray, List.set_cons_zero, List.set_cons_succ]
            refine take_yes 30 158 rfl rfl (by kernel_rfl) (by kernel_rfl) (by kernel_rfl) (fun _ _ _ h => h) (by rfl) (by assumption) (v := ?_) ?_ ?_
            rotate_left
            · intro w hSw; (try dsimp only at hSw); go_simp; (try with_reducible rfl)
            try simp only [Act.put, List.setIfInBounds_toArray, List.set_cons_zero, List.set_cons_succ]
            refine take_yes 31 159 rfl rfl (by kernel_rfl) (by kernel_rfl) (by kernel_rfl) (fun _ _ _ h => h) (by rfl) (by assumption) (v := ?_) ?_ ?_
            rotate_left
            · intro w hSw; (try dsimp only at hSw); go_simp; (try with_reducible rfl)
            try simp only [Act.put, List.setIfInBounds_toArray, List.set_cons_zero, List.set_cons_succ]
            refine take_yes 32 160 rfl rfl (by kernel_rfl) (by kernel_rfl) (by kernel_rfl) (fun _ _ _ h => h) (by rfl) (by assumption) (v := ?_) ?_ ?_
            rotate_left
            · intro w hSw; (try dsimp only at hSw); go_simp; (try with_reducible rfl)
            try simp only [Act.put, List.setIfInBounds_toArray, List.set_cons_zero, List.set_cons_succ]
            refine take_yes 35 163 rfl rfl (by kernel_rfl) (by kernel_rfl) (by kernel_rfl) (fun _ _ _ h => h) (by rfl) (by assumption) (v := ?_) ?_ ?_
            rotate_left
            · intro w hSw; (try dsimp only at hSw); go_simp; (try with_reducible rfl)
            try simp only [Act.put, List.setIfInBounds_toArray, List.set_cons_zero, List.set_cons_succ]
            refine take_yes 37 165 rfl rfl (by kernel_rfl) (by kernel_rfl) (by kernel_rfl) (fun _ _ _ h => h) (by rfl) (by assumption) (v := ?_) ?_ ?_
            rotate_left
            · intro w hSw; (try dsimp only at hSw); go_simp; (try with_reducible rfl)
            try simp only [Act.put, List.setIfInBounds_toArray, List.set_cons_zero, List.set_cons_succ]
            refine wpAnyH_ready (rs := [21, 33]) (by kernel_rfl) (by simp) ?_
            refine AllReadyH.cons (o := _) rfl (fun K hK => ?_) ?_
            · as_aux_lemma =>
                go_simp
                (try go_wp2_with fail)
                refine hK.out _ _ ?_ (fun hHeld => ?_)
                · (try dsimp only); exact Rest.step (by assumption) ((Fr.refl _ _).alloc _)
                clear hK K
                try simp only [Act.put, List.setIfInBounds_toArray, List.set_cons_zero, List.set_cons_succ]
                have hF11 : Fr [] v0' (v0'.alloc (.cells #[.int .u8 (IntKind.u8.wrap 1)] 5)) := (Fr.refl _ _).alloc _
                have hB1 : Blk (v0'.alloc (.cells #[.int .u8 (IntKind.u8.wrap 1)] 5)) v0'.heap.size #[.int .u8 1] 5 := Blk.new _ _ _
                obtain ⟨v11, hV⟩ : ∃ V, v0'.alloc (.cells #[.int .u8 (IntKind.u8.wrap 1)] 5) = V := ⟨_, rfl⟩
                obtain ⟨b1, hb⟩ : ∃ b, v0'.heap.size = b := ⟨_, rfl⟩
                rw [hV] at hF11 hB1 hHeld ⊢
                rw [hb] at hB1 ⊢
                clear hV hb
                refine wpAnyH_ready (rs := [22, 33]) (by kernel_rfl) (by simp) ?_
                refine AllReadyH.cons (o := _) rfl (fun K hK => ?_) ?_
                · as_aux_lemma =>
                    have hr := conv1 hB1 Hbl.out
                    go_simp
                    (try go_wp2_with fail)
                    refine hK.out _ _ ?_ (fun hHeld => ?_)
                    · (try dsimp only); assumption
                    clear hK K hr hB1
                    try simp only [Act.put, List.setIfInBounds_toArray, List.set_cons_zero, List.set_cons_succ]
                    refine take_yes 24 152 rfl rfl (by kernel_rfl) (by kernel_rfl) (by kernel_rfl) (fun _ _ _ h => h) (by rfl) (by assumption) (v := ?_) ?_ ?_
                    rotate_left
                    · intro w hSw; (try dsimp only at hSw); go_simp; (try with_reducible rfl)
                    try simp only [Act.put, List.setIfInBounds_toArray, List.set_cons_zero, List.set_cons_succ]
                    refine take_yes 26 154 rfl rfl (by kernel_rfl) (by kernel_rfl) (by kernel_rfl) (fun _ _ _ h => h) (by rfl) (by assumption) (v := ?_) ?_ ?_
                    rotate_left
                    · intro w hSw; (try dsimp only at hSw); go_simp; (try with_reducible rfl)
                    try simp only [Act.put, List.setIfInBounds_toArray, List.set_cons_zero, List.set_cons_succ]
                    refine wpAnyH_ready (rs := [27, 33]) (by kernel_rfl) (by simp) ?_
                    refine AllReadyH.cons (o := _) rfl (fun K hK => ?_) ?_
                    · as_aux_lemma =>
                        go_simp
                        refine (H1.out _).mono ?_
                        rintro r v12 ⟨rfl, hF12⟩
                        (try go_wp2_with fail)
                        refine hK.out _ _ ?_ (fun hHeld => ?_)
                        · (try dsimp only); exact Rest.step (by assumption) hF12
                        clear hK K
                        try simp only [Act.put, List.setIfInBounds_toArray, List.set_cons_zero, List.set_cons_succ]
                        refine wpAnyH_ready (rs := [33]) (by kernel_rfl) (by simp) ?_
                        refine AllReadyH.cons (o := _) rfl (fun K hK => ?_) AllReadyH.nil
                        go_simp
                        (try go_wp2_with fail)
                        refine hK.out _ _ ?_ (fun hHeld => ?_)
                        · (try dsimp only); exact Rest.step (by assumption) ((Fr.refl _ _).alloc _)
                        clear hK K
                        try simp only [Act.put, List.setIfInBounds_toArray, List.set_cons_zero, List.set_cons_succ]
                        have hF13 : Fr [] v12 (v12.alloc (.cells #[.int .u8 (IntKind.u8.wrap 1)] 5)) := (Fr.refl _ _).alloc _
                        have hB2 : Blk (v12.alloc (.cells #[.int .u8 (IntKind.u8.wrap 1)] 5)) v12.heap.size #[.int .u8 1] 5 := Blk.new _ _ _
                        obtain ⟨v13, hV⟩ : ∃ V, v12.alloc (.cells #[.int .u8 (IntKind.u8.wrap 1)] 5) = V := ⟨_, rfl⟩
                        obtain ⟨b2, hb⟩ : ∃ b, v12.heap.size = b := ⟨_, rfl⟩
                        rw [hV] at hF13 hB2 hHeld ⊢
                        rw [hb] at hB2 ⊢
                        clear hV hb
                        refine wpAnyH_ready (rs := [34]) (by kernel_rfl) (by simp) ?_
                        refine AllReadyH.cons (o := _) rfl (fun K hK => ?_) AllReadyH.nil
                        have hr := conv1 hB2 Hbl.out
                        go_simp
                        (try go_wp2_with fail)
                        refine hK.out _ _ ?_ (fun hHeld => ?_)
                        · (try dsimp only); assumption
                        clear hK K hr hB2
                        try simp only [Act.put, List.setIfInBounds_toArray, List.set_cons_zero, List.set_cons_succ]
                        refine take_yes 36 164 rfl rfl (by kernel_rfl) (by kernel_rfl) (by kernel_rfl) (fun _ _ _ h => h) (by rfl) (by assumption) (v := ?_) ?_ ?_
                        rotate_left
                        · intro w hSw; (try dsimp only at hSw); go_simp; (try with_reducible rfl)
                        try simp only [Act.put, List.setIfInBounds_toArray, List.set_cons_zero, List.set_cons_succ]
                        refine take_yes 38 166 rfl rfl (by kernel_rfl) (by kernel_rfl) (by kernel_rfl) (fun _ _ _ h => h) (by rfl) (by assumption) (v := ?_) ?_ ?_
                        rotate_left
                        · intro w hSw; (try dsimp only at hSw); go_simp; (try with_reducible rfl)
                        try simp only [Act.put, List.setIfInBounds_toArray, List.set_cons_zero, List.set_cons_succ]
                        refine wpAnyH_ready (rs := [39]) (by kernel_rfl) (by simp) ?_
                        refine AllReadyH.cons (o := _) rfl (fun K hK => ?_) AllReadyH.nil
                        go_simp
                        refine (H2.out _).mono ?_
                        rintro r v14 ⟨rfl, hF14⟩
                        (try go_wp2_with fail)
                        refine hK.out _ _ ?_ (fun hHeld => ?_)
                        · (try dsimp only); exact Rest.step (by assumption) hF14
                        clear hK K
                        try simp only [Act.put, List.setIfInBounds_toArray, List.set_cons_zero, List.set_cons_succ]
                        refine take_yes 40 168 rfl rfl (by kernel_rfl) (by kernel_rfl) (by kernel_rfl) (fun _ _ _ h => h) (by rfl) (by assumption) (v := ?_) ?_ ?_
                        rotate_left
                        · intro w hSw; (try dsimp only at hSw); go_simp; (try with_reducible rfl)
                        try simp only [Act.put, List.setIfInBounds_toArray, List.set_cons_zero, List.set_cons_succ]
                        refine take_yes 41 169 rfl rfl (by kernel_rfl) (by kernel_rfl) (by kernel_rfl) (fun _ _ _ h => h) (by rfl) (by assumption) (v := ?_) ?_ ?_
                        rotate_left
                        · intro w hSw; (try dsimp only at hSw); go_simp; (try with_reducible rfl)
                        try simp only [Act.put, List.setIfInBounds_toArray, List.set_cons_zero, List.set_cons_succ]
                        refine wpAnyH_done (by kernel_rfl) ?_ _
                        clear hG HX HY H1 H2
                        go_wp2
                        go_meet
                        exact ⟨rfl, hHeld.2⟩
                    refine AllReadyH.cons (o := _) rfl (fun K hK => ?_) AllReadyH.nil
                    go_simp
                    (try go_wp2_with fail)
                    refine hK.out _ _ ?_ (fun hHeld => ?_)
                    · (try dsimp only); exact Rest.step (by assumption) ((Fr.refl _ _).alloc _)
                    clear hK K
                    try simp only [Act.put, List.setIfInBounds_toArray, List.set_cons_zero, List.set_cons_succ]
                    have hF12 : Fr [] v11 (v11.alloc (.cells #[.int .u8 (IntKind.u8.wrap 1)] 5)) := (Fr.refl _ _).alloc _
                    have hB2 : Blk (v11.alloc (.cells #[.int .u8 (IntKind.u8.wrap 1)] 5)) v11.heap.size #[.int .u8 1] 5 := Blk.new _ _ _
                    obtain ⟨v12, hV⟩ : ∃ V, v11.alloc (.cells #[.int .u8 (IntKind.u8.wrap 1)] 5) = V := ⟨_, rfl⟩
                    obtain ⟨b2, hb⟩ : ∃ b, v11.heap.size = b := ⟨_, rfl⟩
                    rw [hV] at hF12 hB2 hHeld ⊢
                    rw [hb] at hB2 ⊢
                    clear hV hb
                    refine wpAnyH_ready (rs := [27, 34]) (by kernel_rfl) (by simp) ?_
                    refine AllReadyH.cons (o := _) rfl (fun K hK => ?_) ?_
                    · as_aux_lemma =>
                        go_simp
                        refine (H1.out _).mono ?_
                        rintro r v13 ⟨rfl, hF13⟩
                        (try go_wp2_with fail)
                        refine hK.out _ _ ?_ (fun hHeld => ?_)
                        · (try dsimp only); exact Rest.step (by assumption) hF13
                        clear hK K
                        try simp only [Act.put, List.setIfInBounds_toArray, List.set_cons_zero, List.set_cons_succ]
                        have hB2 := hF13.blk hB2 (by simp)
                        refine wpAnyH_ready (rs := [34]) (by kernel_rfl) (by simp) ?_
                        refine AllReadyH.cons (o := _) rfl (fun K hK => ?_) AllReadyH.nil
                        have hr := conv1 hB2 Hbl.out
                        go_simp
                        (try go_wp2_with fail)
                        refine hK.out _ _ ?_ (fun hHeld => ?_)
                        · (try dsimp only); assumption
                        clear hK K hr hB2
                        try simp only [Act.put, List.setIfInBounds_toArray, List.set_cons_zero, List.set_cons_succ]
                        refine take_yes 36 164 rfl rfl (by kernel_rfl) (by kernel_rfl) (by kernel_rfl) (fun _ _ _ h => h) (by rfl) (by assumption) (v := ?_) ?_ ?_
                        rotate_left
                        · intro w hSw; (try dsimp only at hSw); go_simp; (try with_reducible rfl)
                        try simp only [Act.put, List.setIfInBounds_toArray, List.set_cons_zero, List.set_cons_succ]
                        refine take_yes 38 166 rfl rfl (by kernel_rfl) (by kernel_rfl) (by kernel_rfl) (fun _ _ _ h => h) (by rfl) (by assumption) (v := ?_) ?_ ?_
                        rotate_left
                        · intro w hSw; (try dsimp only at hSw); go_simp; (try with_reducible rfl)
                        try simp only [Act.put, List.setIfInBounds_toArray, List.set_cons_zero, List.set_cons_succ]
                        refine wpAnyH_ready (rs := [39]) (by kernel_rfl) (by simp) ?_
                        refine AllReadyH.cons (o := _) rfl (fun K hK => ?_) AllReadyH.nil
                        go_simp
                        refine (H2.out _).mono ?_
                        rintro r v14 ⟨rfl, hF14⟩
                        (try go_wp2_with fail)
                        refine hK.out _ _ ?_ (fun hHeld => ?_)
                        · (try dsimp only); exact Rest.step (by assumption) hF14
                        clear hK K
                        try simp only [Act.put, List.setIfInBounds_toArray, List.set_cons_zero, List.set_cons_succ]
                        refine take_yes 40 168 rfl rfl (by kernel_rfl) (by kernel_rfl) (by kernel_rfl) (fun _ _ _ h => h) (by rfl) (by assumption) (v := ?_) ?_ ?_
                        rotate_left
                        · intro w hSw; (try dsimp only at hSw); go_simp; (try with_reducible rfl)
                        try simp only [Act.put, List.setIfInBounds_toArray, List.set_cons_zero, List.set_cons_succ]
                        refine take_yes 41 169 rfl rfl (by kernel_rfl) (by kernel_rfl) (by kernel_rfl) (fun _ _ _ h => h) (by rfl) (by assumption) (v := ?_) ?_ ?_
                        rotate_left
                        · intro w hSw; (try dsimp only at hSw); go_simp; (try with_reducible rfl)
                        try simp only [Act.put, List.setIfInBounds_toArray, List.set_cons_zero, List.set_cons_succ]
                        refine wpAnyH_done (by kernel_rfl) ?_ _
                        clear hG HX HY H1 H2
                        go_wp2
                        go_meet
                        exact ⟨rfl, hHeld.2⟩
                    refine AllReadyH.cons (o := _) rfl (fun K hK => ?_) AllReadyH.nil
                    have hr := conv1 hB2 Hbl.out
                    go_simp
                    (try go_wp2_with fail)
                    refine hK.out _ _ ?_ (fun hHeld => ?_)
                    · (try dsimp only); assumption
                    clear hK K hr hB2
                    try simp only [Act.put, List.setIfInBounds_toArray, List.set_cons_zero, List.set_cons_succ]
                    refine take_yes 36 164 rfl rfl (by kernel_rfl) (by kernel_rfl) (by kernel_rfl) (fun _ _ _ h => h) (by rfl) (by assumption) (v := ?_) ?_ ?_
                    rotate_left
                    · intro w hSw; (try dsimp only at hSw); go_simp; (try with_reducible rfl)
                    try simp only [Act.put, List.setIfInBounds_toArray, List.set_cons_zero, List.set_cons_succ]
                    refine take_yes 38 166 rfl rfl (by kernel_rfl) (by kernel_rfl) (by kernel_rfl) (fun _ _ _ h => h) (by rfl) (by assumption) (v := ?_) ?_ ?_
                    rotate_left
                    · intro w hSw; (try dsimp only at hSw); go_simp; (try with_reducible rfl)
                    try simp only [Act.put, List.setIfInBounds_toArray, List.set_cons_zero, List.set_cons_succ]
                    refine wpAnyH_ready (rs := [27]) (by kernel_rfl) (by simp) ?_
                    refine AllReadyH.cons (o := _) rfl (fun K hK => ?_) AllReadyH.nil
                    go_simp
                    refine (H1.out _).mono ?_
                    rintro r v13 ⟨rfl, hF13⟩
                    (try go_wp2_with fail)
                    refine hK.out _ _ ?_ (fun hHeld => ?_)
                    · (try dsimp only); exact Rest.step (by assumption) hF13
                    clear hK K
                    try simp only [Act.put, List.setIfInBounds_toArray, List.set_cons_zero, List.set_cons_succ]
                    refine wpAnyH_ready (rs := [39]) (by kernel_rfl) (by simp) ?_
                    refine AllReadyH.cons (o := _) rfl (fun K hK => ?_) AllReadyH.nil
                    go_simp
                    refine (H2.out _).mono ?_
                    rintro r v14 ⟨rfl, hF14⟩
                    (try go_wp2_with fail)
                    refine hK.out _ _ ?_ (fun hHeld => ?_)
                    · (try dsimp only); exact Rest.step (by assumption) hF14
                    clear hK K
                    try simp only [Act.put, List.setIfInBounds_toArray, List.set_cons_zero, List.set_cons_succ]
                    refine take_yes 40 168 rfl rfl (by kernel_rfl) (by kernel_rfl) (by kernel_rfl) (fun _ _ _ h => h) (by rfl) (by assumption) (v := ?_) ?_ ?_
                    rotate_left
                    · intro w hSw; (try dsimp only at hSw); go_simp; (try with_reducible rfl)
                    try simp only [Act.put, List.setIfInBounds_toArray, List.set_cons_zero, List.set_cons_succ]
                    refine take_yes 41 169 rfl rfl (by kernel_rfl) (by kernel_rfl) (by kernel_rfl) (fun _ _ _ h => h) (by rfl) (by assumption) (v := ?_) ?_ ?_
                    rotate_left
                    · intro w hSw; (try dsimp only at hSw); go_simp; (try with_reducible rfl)
                    try simp only [Act.put, List.setIfInBounds_toArray, List.set_cons_zero, List.set_cons_succ]
                    refine wpAnyH_done (by kernel_rfl) ?_ _
                    clear hG HX HY H1 H2
                    go_wp2
                    go_meet
                    exact ⟨rfl, hHeld.2⟩
                refine AllReadyH.cons (o := _) rfl (fun K hK => ?_) AllReadyH.nil
                go_simp
                (try go_wp2_with fail)
                refine hK.out _ _ ?_ (fun hHeld => ?_)
                · (try dsimp only); exact Rest.step (by assumption) ((Fr.refl _ _).alloc _)
                clear hK K
                try simp only [Act.put, List.setIfInBounds_toArray, List.set_cons_zero, List.set_cons_succ]
                have hF12 : Fr [] v11 (v11.alloc (.cells #[.int .u8 (IntKind.u8.wrap 1)] 5)) := (Fr.refl _ _).alloc _
                have hB2 : Blk (v11.alloc (.cells #[.int .u8 (IntKind.u8.wrap 1)] 5)) v11.heap.size #[.int .u8 1] 5 := Blk.new _ _ _
                obtain ⟨v12, hV⟩ : ∃ V, v11.alloc (.cells #[.int .u8 (IntKind.u8.wrap 1)] 5) = V := ⟨_, rfl⟩
                obtain ⟨b2, hb⟩ : ∃ b, v11.heap.size = b := ⟨_, rfl⟩
                rw [hV] at hF12 hB2 hHeld ⊢
                rw [hb] at hB2 ⊢
                clear hV hb
                have hB1 := hF12.blk hB1 (by simp)
                refine wpAnyH_ready (rs := [22, 34]) (by kernel_rfl) (by simp) ?_
                refine AllReadyH.cons (o := _) rfl (fun K hK => ?_) ?_
                · as_aux_lemma =>
                    have hr := conv1 hB1 Hbl.out
                    go_simp
                    (try go_wp2_with fail)
                    refine hK.out _ _ ?_ (fun hHeld => ?_)
                    · (try dsimp only); assumption
                    clear hK K hr hB1
                    try simp only [Act.put, List.setIfInBounds_toArray, List.set_cons_zero, List.set_cons_succ]
                    refine take_yes 24 152 rfl rfl (by kernel_rfl) (by kernel_rfl) (by kernel_rfl) (fun _ _ _ h => h) (by rfl) (by assumption) (v := ?_) ?_ ?_
                    rotate_left
                    · intro w hSw; (try dsimp only at hSw); go_simp; (try with_reducible rfl)
                    try simp only [Act.put, List.setIfInBounds_toArray, List.set_cons_zero, List.set_cons_succ]
                    refine take_yes 26 154 rfl rfl (by kernel_rfl) (by kernel_rfl) (by kernel_rfl) (fun _ _ _ h => h) (by rfl) (by assumption) (v := ?_) ?_ ?_
                    rotate_left
                    · intro w hSw; (try dsimp only at hSw); go_simp; (try with_reducible rfl)
                    try simp only [Act.put, List.setIfInBounds_toArray, List.set_cons_zero, List.set_cons_succ]
                    refine wpAnyH_ready (rs := [27, 34]) (by kernel_rfl) (by simp) ?_
                    refine AllReadyH.cons (o := _) rfl (fun K hK => ?_) ?_
                    · as_aux_lemma =>
                        go_simp
                        refine (H1.out _).mono ?_
                        rintro r v13 ⟨rfl, hF13⟩
                        (try go_wp2_with fail)
                        refine hK.out _ _ ?_ (fun hHeld => ?_)
                        · (try dsimp only); exact Rest.step (by assumption) hF13
                        clear hK K
                        try simp only [Act.put, List.setIfInBounds_toArray, List.set_cons_zero, List.set_cons_succ]
                        have hB2 := hF13.blk hB2 (by simp)
                        refine wpAnyH_ready (rs := [34]) (by kernel_rfl) (by simp) ?_
                        refine AllReadyH.cons (o := _) rfl (fun K hK => ?_) AllReadyH.nil
                        have hr := conv1 hB2 Hbl.out
                        go_simp
                        (try go_wp2_with fail)
                        refine hK.out _ _ ?_ (fun hHeld => ?_)
                        · (try dsimp only); assumption
                        clear hK K hr hB2
                        try simp only [Act.put, List.setIfInBounds_toArray, List.set_cons_zero, List.set_cons_succ]
                        refine take_yes 36 164 rfl rfl (by kernel_rfl) (by kernel_rfl) (by kernel_rfl) (fun _ _ _ h => h) (by rfl) (by assumption) (v := ?_) ?_ ?_
                        rotate_left
                        · intro w hSw; (try dsimp only at hSw); go_simp; (try with_reducible rfl)
                        try simp only [Act.put, List.setIfInBounds_toArray, List.set_cons_zero, List.set_cons_succ]
                        refine take_yes 38 166 rfl rfl (by kernel_rfl) (by kernel_rfl) (by kernel_rfl) (fun _ _ _ h => h) (by rfl) (by assumption) (v := ?_) ?_ ?_
                        rotate_left
                        · intro w hSw; (try dsimp only at hSw); go_simp; (try with_reducible rfl)
                        try simp only [Act.put, List.setIfInBounds_toArray, List.set_cons_zero, List.set_cons_succ]
                        refine wpAnyH_ready (rs := [39]) (by kernel_rfl) (by simp) ?_
                        refine AllReadyH.cons (o := _) rfl (fun K hK => ?_) AllReadyH.nil
                        go_simp
                        refine (H2.out _).mono ?_
                        rintro r v14 ⟨rfl, hF14⟩
                        (try go_wp2_with fail)
                        refine hK.out _ _ ?_ (fun hHeld => ?_)
                        · (try dsimp only); exact Rest.step (by assumption) hF14
                        clear hK K
                        try simp only [Act.put, List.setIfInBounds_toArray, List.set_cons_zero, List.set_cons_succ]
                        refine take_yes 40 168 rfl rfl (by kernel_rfl) (by kernel_rfl) (by kernel_rfl) (fun _ _ _ h => h) (by rfl) (by assumption) (v := ?_) ?_ ?_
                        rotate_left
                        · intro w hSw; (try dsimp only at hSw); go_simp; (try with_reducible rfl)
                        try simp only [Act.put, List.setIfInBounds_toArray, List.set_cons_zero, List.set_cons_succ]
                        refine take_yes 41 169 rfl rfl (by kernel_rfl) (by kernel_rfl) (by kernel_rfl) (fun _ _ _ h => h) (by rfl) (by assumption) (v := ?_) ?_ ?_
                        rotate_left
                        · intro w hSw; (try dsimp only at hSw); go_simp; (try with_reducible rfl)
                        try simp only [Act.put, List.setIfInBounds_toArray, List.set_cons_zero, List.set_cons_succ]
                        refine wpAnyH_done (by kernel_rfl) ?_ _
                        clear hG HX HY H1 H2
                        go_wp2
                        go_meet
                        exact ⟨rfl, hHeld.2⟩
                    refine AllReadyH.cons (o := _) rfl (fun K hK => ?_) AllReadyH.nil
                    have hr := conv1 hB2 Hbl.out
                    go_simp
                    (try go_wp2_with fail)
                    refine hK.out _ _ ?_ (fun hHeld => ?_)
                    · (try dsimp only); assumption
                    clear hK K hr hB2
                    try simp only [Act.put, List.setIfInBounds_toArray, List.set_cons_zero, List.set_cons_succ]
                    refine take_yes 36 164 rfl rfl (by kernel_rfl) (by kernel_rfl) (by kernel_rfl) (fun _ _ _ h => h) (by rfl) (by assumption) (v := ?_) ?_ ?_
                    rotate_left
                    · intro w hSw; (try dsimp only at hSw); go_simp; (try with_reducible rfl)
                    try simp only [Act.put, List.setIfInBounds_toArray, List.set_cons_zero, List.set_cons_succ]
                    refine take_yes 38 166 rfl rfl (by kernel_rfl) (by kernel_rfl) (by kernel_rfl) (fun _ _ _ h => h) (by rfl) (by assumption) (v := ?_) ?_ ?_
                    rotate_left
                    · intro w hSw; (try dsimp only at hSw); go_simp; (try with_reducible rfl)
                    try simp only [Act.put, List.setIfInBounds_toArray, List.set_cons_zero, List.set_cons_succ]
                    refine wpAnyH_ready (rs := [27]) (by kernel_rfl) (by simp) ?_
                    refine AllReadyH.cons (o := _) rfl (fun K hK => ?_) AllReadyH.nil
                    go_simp
                    refine (H1.out _).mono ?_
                    rintro r v13 ⟨rfl, hF13⟩
                    (try go_wp2_with fail)
                    refine hK.out _ _ ?_ (fun hHeld => ?_)
                    · (try dsimp only); exact Rest.step (by assumption) hF13
                    clear hK K
                    try simp only [Act.put, List.setIfInBounds_toArray, List.set_cons_zero, List.set_cons_succ]
                    refine wpAnyH_ready (rs := [39]) (by kernel_rfl) (by simp) ?_
                    refine AllReadyH.cons (o := _) rfl (fun K hK => ?_) AllReadyH.nil
                    go_simp
                    refine (H2.out _).mono ?_
                    rintro r v14 ⟨rfl, hF14⟩
                    (try go_wp2_with fail)
                    refine hK.out _ _ ?_ (fun hHeld => ?_)
                    · (try dsimp only); exact Rest.step (by assumption) hF14
                    clear hK K
                    try simp only [Act.put, List.setIfInBounds_toArray, List.set_cons_zero, List.set_cons_succ]
                    refine take_yes 40 168 rfl rfl (by kernel_rfl) (by kernel_rfl) (by kernel_rfl) (fun _ _ _ h => h) (by rfl) (by assumption) (v := ?_) ?_ ?_
                    rotate_left
                    · intro w hSw; (try dsimp only at hSw); go_simp; (try with_reducible rfl)
                    try simp only [Act.put, List.setIfInBounds_toArray, List.set_cons_zero, List.set_cons_succ]
                    refine take_yes 41 169 rfl rfl (by kernel_rfl) (by kernel_rfl) (by kernel_rfl) (fun _ _ _ h => h) (by rfl) (by assumption) (v := ?_) ?_ ?_
                    rotate_left
                    · intro w hSw; (try dsimp only at hSw); go_simp; (try with_reducible rfl)
                    try simp only [Act.put, List.setIfInBounds_toArray, List.set_cons_zero, List.set_cons_succ]
                    refine wpAnyH_done (by kernel_rfl) ?_ _
                    clear hG HX HY H1 H2
                    go_wp2
                    go_meet
                    exact ⟨rfl, hHeld.2⟩
                refine AllReadyH.cons (o := _) rfl (fun K hK => ?_) AllReadyH.nil
                have hr := conv1 hB2 Hbl.out
                go_simp
                (try go_wp2_with fail)
                refine hK.out _ _ ?_ (fun hHeld => ?_)
                · (try dsimp only); assumption
                clear hK K hr hB2
                try simp only [Act.put, List.setIfInBounds_toArray, List.set_cons_zero, List.set_cons_succ]
                refine take_yes 36 164 rfl rfl (by kernel_rfl) (by kernel_rfl) (by kernel_rfl) (fun _ _ _ h => h) (by rfl) (by assumption) (v := ?_) ?_ ?_
                rotate_left
                · intro w hSw; (try dsimp only at hSw); go_simp; (try with_reducible rfl)
                try simp only [Act.put, List.setIfInBounds_toArray, List.set_cons_zero, List.set_cons_succ]
                refine take_yes 38 166 rfl rfl (by kernel_rfl) (by kernel_rfl) (by kernel_rfl) (fun _ _ _ h => h) (by rfl) (by assumption) (v := ?_) ?_ ?_
                rotate_left
                · intro w hSw; (try dsimp only at hSw); go_simp; (try with_reducible rfl)
                try simp only [Act.put, List.setIfInBounds_toArray, List.set_cons_zero, List.set_cons_succ]
                refine wpAnyH_ready (rs := [22]) (by kernel_rfl) (by simp) ?_
                refine AllReadyH.cons (o := _) rfl (fun K hK => ?_) AllReadyH.nil
                have hr := conv1 hB1 Hbl.out
                go_simp
                (try go_wp2_with fail)
                refine hK.out _ _ ?_ (fun hHeld => ?_)
                · (try dsimp only); assumption
                clear hK K hr hB1
                try simp only [Act.put, List.setIfInBounds_toArray, List.set_cons_zero, List.set_cons_succ]
                refine take_yes 24 152 rfl rfl (by kernel_rfl) (by kernel_rfl) (by kernel_rfl) (fun _ _ _ h => h) (by rfl) (by assumption) (v := ?_) ?_ ?_
                rotate_left
                · intro w hSw; (try dsimp only at hSw); go_simp; (try with_reducible rfl)
                try simp only [Act.put, List.setIfInBounds_toArray, List.set_cons_zero, List.set_cons_succ]
                refine take_yes 26 154 rfl rfl (by kernel_rfl) (by kernel_rfl) (by kernel_rfl) (fun _ _ _ h => h) (by rfl) (by assumption) (v := ?_) ?_ ?_
                rotate_left
                · intro w hSw; (try dsimp only at hSw); go_simp; (try with_reducible rfl)
                try simp only [Act.put, List.setIfInBounds_toArray, List.set_cons_zero, List.set_cons_succ]
                refine wpAnyH_ready (rs := [27]) (by kernel_rfl) (by simp) ?_
                refine AllReadyH.cons (o := _) rfl (fun K hK => ?_) AllReadyH.nil
                go_simp
                refine (H1.out _).mono ?_
                rintro r v13 ⟨rfl, hF13⟩
                (try go_wp2_with fail)
                refine hK.out _ _ ?_ (fun hHeld => ?_)
                · (try dsimp only); exact Rest.step (by assumption) hF13
                clear hK K
                try simp only [Act.put, List.setIfInBounds_toArray, List.set_cons_zero, List.set_cons_succ]
                refine wpAnyH_ready (rs := [39]) (by kernel_rfl) (by simp) ?_
                refine AllReadyH.cons (o := _) rfl (fun K hK => ?_) AllReadyH.nil
                go_simp
                refine (H2.out _).mono ?_
                rintro r v14 ⟨rfl, hF14⟩
                (try go_wp2_with fail)
                refine hK.out _ _ ?_ (fun hHeld => ?_)
                · (try dsimp only); exact Rest.step (by assumption) hF14
                clear hK K
                try simp only [Act.put, List.setIfInBounds_toArray, List.set_cons_zero, List.set_cons_succ]
                refine take_yes 40 168 rfl rfl (by kernel_rfl) (by kernel_rfl) (by kernel_rfl) (fun _ _ _ h => h) (by rfl) (by assumption) (v := ?_) ?_ ?_
                rotate_left
                · intro w hSw; (try dsimp only at hSw); go_simp; (try with_reducible rfl)
                try simp only [Act.put, List.setIfInBounds_toArray, List.set_cons_zero, List.set_cons_succ]
                refine take_yes 41 169 rfl rfl (by kernel_rfl) (by kernel_rfl) (by kernel_rfl) (fun _ _ _ h => h) (by rfl) (by assumption) (v := ?_) ?_ ?_
                rotate_left
                · intro w hSw; (try dsimp only at hSw); go_simp; (try with_reducible rfl)
                try simp only [Act.put, List.setIfInBounds_toArray, List.set_cons_zero, List.set_cons_succ]
                refine wpAnyH_done (by kernel_rfl) ?_ _
                clear hG HX HY H1 H2
                go_wp2
                go_meet
                exact ⟨rfl, hHeld.2⟩
            refine AllReadyH.cons (o := _) rfl (fun K hK => ?_) AllReadyH.nil
            go_simp
            (try go_wp2_with fail)
            refine hK.out _ _ ?_ (fun hHeld => ?_)
            · (try dsimp only); exact Rest.step (by assumption) ((Fr.refl _ _).alloc _)
            clear hK K
            try simp only [Act.put, List.setIfInBounds_toArray, List.set_cons_zero, List.set_cons_succ]
            have hF11 : Fr [] v0' (v0'.alloc (.cells #[.int .u8 (IntKind.u8.wrap 1)] 5)) := (Fr.refl _ _).alloc _
            have hB2 : Blk (v0'.alloc (.cells #[.int .u8 (IntKind.u8.wrap 1)] 5)) v0'.heap.size #[.int .u8 1] 5 := Blk.new _ _ _
            obtain ⟨v11, hV⟩ : ∃ V, v0'.alloc (.cells #[.int .u8 (IntKind.u8.wrap 1)] 5) = V := ⟨_, rfl⟩
            obtain ⟨b2, hb⟩ : ∃ b, v0'.heap.size = b := ⟨_, rfl⟩
            rw [hV] at hF11 hB2 hHeld ⊢
            rw [hb] at hB2 ⊢
            clear hV hb
            refine wpAnyH_ready (rs := [21, 34]) (by kernel_rfl) (by simp) ?_
            refine AllReadyH.cons (o := _) rfl (fun K hK => ?_) ?_
            · as_aux_lemma =>
                go_simp
                (try go_wp2_with fail)
                refine hK.out _ _ ?_ (fun hHeld => ?_)
                · (try dsimp only); exact Rest.step (by assumption) ((Fr.refl _ _).alloc _)
                clear hK K
                try simp only [Act.put, List.setIfInBounds_toArray, List.set_cons_zero, List.set_cons_succ]
                have hF12 : Fr [] v11 (v11.alloc (.cells #[.int .u8 (IntKind.u8.wrap 1)] 5)) := (Fr.refl _ _).alloc _
                have hB1 : Blk (v11.alloc (.cells #[.int .u8 (IntKind.u8.wrap 1)] 5)) v11.heap.size #[.int .u8 1] 5 := Blk.new _ _ _
                obtain ⟨v12, hV⟩ : ∃ V, v11.alloc (.cells #[.int .u8 (IntKind.u8.wrap 1)] 5) = V := ⟨_, rfl⟩
                obtain ⟨b1, hb⟩ : ∃ b, v11.heap.size = b := ⟨_, rfl⟩
                rw [hV] at hF12 hB1 hHeld ⊢
                rw [hb] at hB1 ⊢
                clear hV hb
                have hB2 := hF12.blk hB2 (by simp)
                refine wpAnyH_ready (rs := [22, 34]) (by kernel_rfl) (by simp) ?_
                refine AllReadyH.cons (o := _) rfl (fun K hK => ?_) ?_
                · as_aux_lemma =>
                    have hr := conv1 hB1 Hbl.out
                    go_simp
                    (try go_wp2_with fail)
                    refine hK.out _ _ ?_ (fun hHeld => ?_)
                    · (try dsimp only); assumption
                    clear hK K hr hB1
                    try simp only [Act.put, List.setIfInBounds_toArray, List.set_cons_zero, List.set_cons_succ]
                    refine take_yes 24 152 rfl rfl (by kernel_rfl) (by kernel_rfl) (by kernel_rfl) (fun _ _ _ h => h) (by rfl) (by assumption) (v := ?_) ?_ ?_
                    rotate_left
                    · intro w hSw; (try dsimp only at hSw); go_simp; (try with_reducible rfl)
                    try simp only [Act.put, List.setIfInBounds_toArray, List.set_cons_zero, List.set_cons_succ]
                    refine take_yes 26 154 rfl rfl (by kernel_rfl) (by kernel_rfl) (by kernel_rfl) (fun _ _ _ h => h) (by rfl) (by assumption) (v := ?_) ?_ ?_
                    rotate_left
                    · intro w hSw; (try dsimp only at hSw); go_simp; (try with_reducible rfl)
                    try simp only [Act.put, List.setIfInBounds_toArray, List.set_cons_zero, List.set_cons_succ]
                    refine wpAnyH_ready (rs := [27, 34]) (by kernel_rfl) (by simp) ?_
                    refine AllReadyH.cons (o := _) rfl (fun K hK => ?_) ?_
                    · as_aux_lemma =>
                        go_simp
                        refine (H1.out _).mono ?_
                        rintro r v13 ⟨rfl, hF13⟩
                        (try go_wp2_with fail)
                        refine hK.out _ _ ?_ (fun hHeld => ?_)
                        · (try dsimp only); exact Rest.step (by assumption) hF13
                        clear hK K
                        try simp only [Act.put, List.setIfInBounds_toArray, List.set_cons_zero, List.set_cons_succ]
                        have hB2 := hF13.blk hB2 (by simp)
                        refine wpAnyH_ready (rs := [34]) (by kernel_rfl) (by simp) ?_
                        refine AllReadyH.cons (o := _) rfl (fun K hK => ?_) AllReadyH.nil
                        have hr := conv1 hB2 Hbl.out
                        go_simp
                        (try go_wp2_with fail)
                        refine hK.out _ _ ?_ (fun hHeld => ?_)
                        · (try dsimp only); assumption
                        clear hK K hr hB2
                        try simp only [Act.put, List.setIfInBounds_toArray, List.set_cons_zero, List.set_cons_succ]
                        refine take_yes 36 164 rfl rfl (by kernel_rfl) (by kernel_rfl) (by kernel_rfl) (fun _ _ _ h => h) (by rfl) (by assumption) (v := ?_) ?_ ?_
                        rotate_left
                        · intro w hSw; (try dsimp only at hSw); go_simp; (try with_reducible rfl)
                        try simp only [Act.put, List.setIfInBounds_toArray, List.set_cons_zero, List.set_cons_succ]
                        refine take_yes 38 166 rfl rfl (by kernel_rfl) (by kernel_rfl) (by kernel_rfl) (fun _ _ _ h => h) (by rfl) (by assumption) (v := ?_) ?_ ?_
                        rotate_left
                        · intro w hSw; (try dsimp only at hSw); go_simp; (try with_reducible rfl)
                        try simp only [Act.put, List.setIfInBounds_toArray, List.set_cons_zero, List.set_cons_succ]
                        refine wpAnyH_ready (rs := [39]) (by kernel_rfl) (by simp) ?_
                        refine AllReadyH.cons (o := _) rfl (fun K hK => ?_) AllReadyH.nil
                        go_simp
                        refine (H2.out _).mono ?_
                        rintro r v14 ⟨rfl, hF14⟩
                        (try go_wp2_with fail)
                        refine hK.out _ _ ?_ (fun hHeld => ?_)
                        · (try dsimp only); exact Rest.step (by assumption) hF14
                        clear hK K
                        try simp only [Act.put, List.setIfInBounds_toArray, List.set_cons_zero, List.set_cons_succ]
                        refine take_yes 40 168 rfl rfl (by kernel_rfl) (by kernel_rfl) (by kernel_rfl) (fun _ _ _ h => h) (by rfl) (by assumption) (v := ?_) ?_ ?_
                        rotate_left
                        · intro w hSw; (try dsimp only at hSw); go_simp; (try with_reducible rfl)
                        try simp only [Act.put, List.setIfInBounds_toArray, List.set_cons_zero, List.set_cons_succ]
                        refine take_yes 41 169 rfl rfl (by kernel_rfl) (by kernel_rfl) (by kernel_rfl) (fun _ _ _ h => h) (by rfl) (by assumption) (v := ?_) ?_ ?_
                        rotate_left
                        · intro w hSw; (try dsimp only at hSw); go_simp; (try with_reducible rfl)
                        try simp only [Act.put, List.setIfInBounds_toArray, List.set_cons_zero, List.set_cons_succ]
                        refine wpAnyH_done (by kernel_rfl) ?_ _
                        clear hG HX HY H1 H2
                        go_wp2
                        go_meet
                        exact ⟨rfl, hHeld.2⟩
                    refine AllReadyH.cons (o := _) rfl (fun K hK => ?_) AllReadyH.nil
                    have hr := conv1 hB2 Hbl.out
                    go_simp
                    (try go_wp2_with fail)
                    refine hK.out _ _ ?_ (fun hHeld => ?_)
                    · (try dsimp only); assumption
                    clear hK K hr hB2
                    try simp only [Act.put, List.setIfInBounds_toArray, List.set_cons_zero, List.set_cons_succ]
                    refine take_yes 36 164 rfl rfl (by kernel_rfl) (by kernel_rfl) (by kernel_rfl) (fun _ _ _ h => h) (by rfl) (by assumption) (v := ?_) ?_ ?_
                    rotate_left
                    · intro w hSw; (try dsimp only at hSw); go_simp; (try with_reducible rfl)
                    try simp only [Act.put, List.setIfInBounds_toArray, List.set_cons_zero, List.set_cons_succ]
                    refine take_yes 38 166 rfl rfl (by kernel_rfl) (by kernel_rfl) (by kernel_rfl) (fun _ _ _ h => h) (by rfl) (by assumption) (v := ?_) ?_ ?_
                    rotate_left
                    · intro w hSw; (try dsimp only at hSw); go_simp; (try with_reducible rfl)
                    try simp only [Act.put, List.setIfInBounds_toArray, List.set_cons_zero, List.set_cons_succ]
                    refine wpAnyH_ready (rs := [27]) (by kernel_rfl) (by simp) ?_
                    refine AllReadyH.cons (o := _) rfl (fun K hK => ?_) AllReadyH.nil
                    go_simp
                    refine (H1.out _).mono ?_
                    rintro r v13 ⟨rfl, hF13⟩
                    (try go_wp2_with fail)
                    refine hK.out _ _ ?_ (fun hHeld => ?_)
                    · (try dsimp only); exact Rest.step (by assumption) hF13
                    clear hK K
                    try simp only [Act.put, List.setIfInBounds_toArray, List.set_cons_zero, List.set_cons_succ]
                    refine wpAnyH_ready (rs := [39]) (by kernel_rfl) (by simp) ?_
                    refine AllReadyH.cons (o := _) rfl (fun K hK => ?_) AllReadyH.nil
                    go_simp
                    refine (H2.out _).mono ?_
                    rintro r v14 ⟨rfl, hF14⟩
                    (try go_wp2_with fail)
                    refine hK.out _ _ ?_ (fun hHeld => ?_)
                    · (try dsimp only); exact Rest.step (by assumption) hF14
                    clear hK K
                    try simp only [Act.put, List.setIfInBounds_toArray, List.set_cons_zero, List.set_cons_succ]
                    refine take_yes 40 168 rfl rfl (by kernel_rfl) (by kernel_rfl) (by kernel_rfl) (fun _ _ _ h => h) (by rfl) (by assumption) (v := ?_) ?_ ?_
                    rotate_left
                    · intro w hSw; (try dsimp only at hSw); go_simp; (try with_reducible rfl)
                    try simp only [Act.put, List.setIfInBounds_toArray, List.set_cons_zero, List.set_cons_succ]
                    refine take_yes 41 169 rfl rfl (by kernel_rfl) (by kernel_rfl) (by kernel_rfl) (fun _ _ _ h => h) (by rfl) (by assumption) (v := ?_) ?_ ?_
                    rotate_left
                    · intro w hSw; (try dsimp only at hSw); go_simp; (try with_reducible rfl)
                    try simp only [Act.put, List.setIfInBounds_toArray, List.set_cons_zero, List.set_cons_succ]
                    refine wpAnyH_done (by kernel_rfl) ?_ _
                    clear hG HX HY H1 H2
                    go_wp2
                    go_meet
                    exact ⟨rfl, hHeld.2⟩
                refine AllReadyH.cons (o := _) rfl (fun K hK => ?_) AllReadyH.nil
                have hr := conv1 hB2 Hbl.out
                go_simp
                (try go_wp2_with fail)
                refine hK.out _ _ ?_ (fun hHeld => ?_)
                · (try dsimp only); assumption
                clear hK K hr hB2
                try simp only [Act.put, List.setIfInBounds_toArray, List.set_cons_zero, List.set_cons_succ]
                refine take_yes 36 164 rfl rfl (by kernel_rfl) (by kernel_rfl) (by kernel_rfl) (fun _ _ _ h => h) (by rfl) (by assumption) (v := ?_) ?_ ?_
                rotate_left
                · intro w hSw; (try dsimp only at hSw); go_simp; (try with_reducible rfl)
                try simp only [Act.put, List.setIfInBounds_toArray, List.set_cons_zero, List.set_cons_succ]
                refine take_yes 38 166 rfl rfl (by kernel_rfl) (by kernel_rfl) (by kernel_rfl) (fun _ _ _ h => h) (by rfl) (by assumption) (v := ?_) ?_ ?_
                rotate_left
                · intro w hSw; (try dsimp only at hSw); go_simp; (try with_reducible rfl)
                try simp only [Act.put, List.setIfInBounds_toArray, List.set_cons_zero, List.set_cons_succ]
                refine wpAnyH_ready (rs := [22]) (by kernel_rfl) (by simp) ?_
                refine AllReadyH.cons (o := _) rfl (fun K hK => ?_) AllReadyH.nil
                have hr := conv1 hB1 Hbl.out
                go_simp
                (try go_wp2_with fail)
                refine hK.out _ _ ?_ (fun hHeld => ?_)
                · (try dsimp only); assumption
                clear hK K hr hB1
                try simp only [Act.put, List.setIfInBounds_toArray, List.set_cons_zero, List.set_cons_succ]
                refine take_yes 24 152 rfl rfl (by kernel_rfl) (by kernel_rfl) (by kernel_rfl) (fun _ _ _ h => h) (by rfl) (by assumption) (v := ?_) ?_ ?_
                rotate_left
                · intro w hSw; (try dsimp only at hSw); go_simp; (try with_reducible rfl)
                try simp only [Act.put, List.setIfInBounds_toArray, List.set_cons_zero, List.set_cons_succ]
                refine take_yes 26 154 rfl rfl (by kernel_rfl) (by kernel_rfl) (by kernel_rfl) (fun _ _ _ h => h) (by rfl) (by assumption) (v := ?_) ?_ ?_
                rotate_left
                · intro w hSw; (try dsimp only at hSw); go_simp; (try with_reducible rfl)
                try simp only [Act.put, List.setIfInBounds_toArray, List.set_cons_zero, List.set_cons_succ]
                refine wpAnyH_ready (rs := [27]) (by kernel_rfl) (by simp) ?_
                refine AllReadyH.cons (o := _) rfl (fun K hK => ?_) AllReadyH.nil
                go_simp
                refine (H1.out _).mono ?_
                rintro r v13 ⟨rfl, hF13⟩
                (try go_wp2_with fail)
                refine hK.out _ _ ?_ (fun hHeld => ?_)
                · (try dsimp only); exact Rest.step (by assumption) hF13
                clear hK K
                try simp only [Act.put, List.setIfInBounds_toArray, List.set_cons_zero, List.set_cons_succ]
                refine wpAnyH_ready (rs := [39]) (by kernel_rfl) (by simp) ?_
                refine AllReadyH.cons (o := _) rfl (fun K hK => ?_) AllReadyH.nil
                go_simp
                refine (H2.out _).mono ?_
                rintro r v14 ⟨rfl, hF14⟩
                (try go_wp2_with fail)
                refine hK.out _ _ ?_ (fun hHeld => ?_)
                · (try dsimp only); exact Rest.step (by assumption) hF14
                clear hK K
                try simp only [Act.put, List.setIfInBounds_toArray, List.set_cons_zero, List.set_cons_succ]
                refine take_yes 40 168 rfl rfl (by kernel_rfl) (by kernel_rfl) (by kernel_rfl) (fun _ _ _ h => h) (by rfl) (by assumption) (v := ?_) ?_ ?_
                rotate_left
                · intro w hSw; (try dsimp only at hSw); go_simp; (try with_reducible rfl)
                try simp only [Act.put, List.setIfInBounds_toArray, List.set_cons_zero, List.set_cons_succ]
                refine take_yes 41 169 rfl rfl (by kernel_rfl) (by kernel_rfl) (by kernel_rfl) (fun _ _ _ h => h) (by rfl) (by assumption) (v := ?_) ?_ ?_
                rotate_left
                · intro w hSw; (try dsimp only at hSw); go_simp; (try with_reducible rfl)
                try simp only [Act.put, List.setIfInBounds_toArray, List.set_cons_zero, List.set_cons_succ]
                refine wpAnyH_done (by kernel_rfl) ?_ _
                clear hG HX HY H1 H2
                go_wp2
                go_meet
                exact ⟨rfl, hHeld.2⟩
            refine AllReadyH.cons (o := _) rfl (fun K hK => ?_) AllReadyH.nil
            have hr := conv1 hB2 Hbl.out
            go_simp
            (try go_wp2_with fail)
            refine hK.out _ _ ?_ (fun hHeld => ?_)
            · (try dsimp only); assumption
            clear hK K hr hB2
            try simp only [Act.put, List.setIfInBounds_toArray, List.set_cons_zero, List.set_cons_succ]
            refine take_yes 36 164 rfl rfl (by kernel_rfl) (by kernel_rfl) (by kernel_rfl) (fun _ _ _ h => h) (by rfl) (by assumption) (v := ?_) ?_ ?_
            rotate_left
            · intro w hSw; (try dsimp only at hSw); go_simp; (try with_reducible rfl)
            try simp only [Act.put, List.setIfInBounds_toArray, List.set_cons_zero, List.set_cons_succ]
            refine take_yes 38 166 rfl rfl (by kernel_rfl) (by kernel_rfl) (by kernel_rfl) (fun _ _ _ h => h) (by rfl) (by assumption) (v := ?_) ?_ ?_
            rotate_left
            · intro w hSw; (try dsimp only at hSw); go_simp; (try with_reducible rfl)
            try simp only [Act.put, List.setIfInBounds_toArray, List.set_cons_zero, List.set_cons_succ]
            refine wpAnyH_ready (rs := [21]) (by kernel_rfl) (by simp) ?_
            refine AllReadyH.cons (o := _) rfl (fun K hK => ?_) AllReadyH.nil
            go_simp
            (try go_wp2_with fail)
            refine hK.out _ _ ?_ (fun hHeld => ?_)
            · (try dsimp only); exact Rest.step (by assumption) ((Fr.refl _ _).alloc _)
            clear hK K
            try simp only [Act.put, List.setIfInBounds_toArray, List.set_cons_zero, List.set_cons_succ]
            have hF12 : Fr [] v11 (v11.alloc (.cells #[.int .u8 (IntKind.u8.wrap 1)] 5)) := (Fr.refl _ _).alloc _
            have hB1 : Blk (v11.alloc (.cells #[.int .u8 (IntKind.u8.wrap 1)] 5)) v11.heap.size #[.int .u8 1] 5 := Blk.new _ _ _
            obtain ⟨v12, hV⟩ : ∃ V, v11.alloc (.cells #[.int .u8 (IntKind.u8.wrap 1)] 5) = V := ⟨_, rfl⟩
            obtain ⟨b1, hb⟩ : ∃ b, v11.heap.size = b := ⟨_, rfl⟩
            rw [hV] at hF12 hB1 hHeld ⊢
            rw [hb] at hB1 ⊢
            clear hV hb
            refine wpAnyH_ready (rs := [22]) (by kernel_rfl) (by simp) ?_
            refine AllReadyH.cons (o := _) rfl (fun K hK => ?_) AllReadyH.nil
            have hr := conv1 hB1 Hbl.out
            go_simp
            (try go_wp2_with fail)
            refine hK.out _ _ ?_ (fun hHeld => ?_)
            · (try dsimp only); assumption
            clear hK K hr hB1
            try simp only [Act.put, List.setIfInBounds_toArray, List.set_cons_zero, List.set_cons_succ]
            refine take_yes 24 152 rfl rfl (by kernel_rfl) (by kernel_rfl) (by kernel_rfl) (fun _ _ _ h => h) (by rfl) (by assumption) (v := ?_) ?_ ?_
            rotate_left
            · intro w hSw; (try dsimp only at hSw); go_simp; (try with_reducible rfl)
            try simp only [Act.put, List.setIfInBounds_toArray, List.set_cons_zero, List.set_cons_succ]
            refine take_yes 26 154 rfl rfl (by kernel_rfl) (by kernel_rfl) (by kernel_rfl) (fun _ _ _ h => h) (by rfl) (by assumption) (v := ?_) ?_ ?_
            rotate_left
            · intro w hSw; (try dsimp only at hSw); go_simp; (try with_reducible rfl)
            try simp only [Act.put, List.setIfInBounds_toArray, List.set_cons_zero, List.set_cons_succ]
            refine wpAnyH_ready (rs := [27]) (by kernel_rfl) (by simp) ?_
            refine AllReadyH.cons (o := _) rfl (fun K hK => ?_) AllReadyH.nil
            go_simp
            refine (H1.out _).mono ?_
            rintro r v13 ⟨rfl, hF13⟩
            (try go_wp2_with fail)
            refine hK.out _ _ ?_ (fun hHeld => ?_)
            · (try dsimp only); exact Rest.step (by assumption) hF13
            clear hK K
            try simp only [Act.put, List.setIfInBounds_toArray, List.set_cons_zero, List.set_cons_succ]
            refine wpAnyH_ready (rs := [39]) (by kernel_rfl) (by simp) ?_
            refine AllReadyH.cons (o := _) rfl (fun K hK => ?_) AllReadyH.nil
            go_simp
            refine (H2.out _).mono ?_
            rintro r v14 ⟨rfl, hF14⟩
            (try go_wp2_with fail)
            refine hK.out _ _ ?_ (fun hHeld => ?_)
            · (try dsimp only); exact Rest.step (by assumption) hF14
            clear hK K
            try simp only [Act.put, List.setIfInBounds_toArray, List.set_cons_zero, List.set_cons_succ]
            refine take_yes 40 168 rfl rfl (by kernel_rfl) (by kernel_rfl) (by kernel_rfl) (fun _ _ _ h => h) (by rfl) (by assumption) (v := ?_) ?_ ?_
            rotate_left
            · intro w hSw; (try dsimp only at hSw); go_simp; (try with_reducible rfl)
            try simp only [Act.put, List.setIfInBounds_toArray, List.set_cons_zero, List.set_cons_succ]
            refine take_yes 41 169 rfl rfl (by kernel_rfl) (by kernel_rfl) (by kernel_rfl) (fun _ _ _ h => h) (by rfl) (by assumption) (v := ?_) ?_ ?_
            rotate_left
            · intro w hSw; (try dsimp only at hSw); go_simp; (try with_reducible rfl)
            try simp only [Act.put, List.setIfInBounds_toArray, List.set_cons_zero, List.set_cons_succ]
            refine wpAnyH_done (by kernel_rfl) ?_ _
            clear hG HX HY H1 H2
            go_wp2
            go_meet
            exact ⟨rfl, hHeld.2⟩
    · as_aux_lemma =>
        have hB0 : ¬ B M = B M2 := fun h => hMM (B_inj.mp h)
        have hB1 : (B M == B M2) = false := by show ((B M).data == (B M2).data) = false; rw [beq_eq_false_iff_ne]; exact fun h => hB0 (ByteArray.ext h)
        have hB2 : (M == M2) = false := by rw [beq_eq_false_iff_ne]; exact hMM
        have hB4 : decide (B M = B M2) = false := decide_eq_false hB0
        refine wp_region_held_drew (S := (fun w' => (w'.cell? ⟨q, 0, none⟩ = some (.string (B nm)) ∧ w'.cell? ⟨q, 2, none⟩ = some (.string (B M)) ∧ w'.cell? ⟨gp, 1, none⟩ = some (.int .i64 1)) ∧ Rest w q gs gc gp gq nm v M PL QL (csv [115, 114, 118] 2 3 1 v false true 0 0 false false none 0 0) (ccl nm sec true true 1 false false) w')) (by kernel_rfl) ?_ (fun hHeld => ?_)
        · (try dsimp only); exact hG
        refine take_yes 0 128 rfl rfl (by kernel_rfl) (by kernel_rfl) (by kernel_rfl) (fun _ _ _ h => h) (by rfl) (by assumption) (v := ?_) ?_ ?_
        rotate_left
        · intro w hSw; (try dsimp only at hSw); go_simp; (try with_reducible rfl)
        try simp only [Act.put, List.setIfInBounds_toArray, List.set_cons_zero, List.set_cons_succ]
        refine take_yes 1 129 rfl rfl (by kernel_rfl) (by kernel_rfl) (by kernel_rfl) (fun _ _ _ h => h) (by rfl) (by assumption) (v := ?_) ?_ ?_
        rotate_left
        · intro w hSw; (try dsimp only at hSw); go_simp; (try with_reducible rfl)
        try simp only [Act.put, List.setIfInBounds_toArray, List.set_cons_zero, List.set_cons_succ]
        refine take_yes 2 130 rfl rfl (by kernel_rfl) (by kernel_rfl) (by kernel_rfl) (fun _ _ _ h => h) (by rfl) (by assumption) (v := ?_) ?_ ?_
        rotate_left
        · intro w hSw; (try dsimp only at hSw); go_simp; (try with_reducible rfl)
        try simp only [Act.put, List.setIfInBounds_toArray, List.set_cons_zero, List.set_cons_succ]
        refine take_yes 3 131 rfl rfl (by kernel_rfl) (by kernel_rfl) (by kernel_rfl) (fun _ _ _ h => h) (by rfl) (by assumption) (v := ?_) ?_ ?_
        rotate_left
        · intro w hSw; (try dsimp only at hSw); go_simp; (try with_reducible rfl)
        try simp only [Act.put, List.setIfInBounds_toArray, List.set_cons_zero, List.set_cons_succ]
        refine take_yes 4 132 rfl rfl (by kernel_rfl) (by kernel_rfl) (by kernel_rfl) (fun _ _ _ h => h) (by rfl) (by assumption) (v := ?_) ?_ ?_
        rotate_left
        · intro w hSw; (try dsimp only at hSw); go_simp; (try with_reducible rfl)
        try simp only [Act.put, List.setIfInBounds_toArray, List.set_cons_zero, List.set_cons_succ]
        refine take_yes 5 133 rfl rfl (by kernel_rfl) (by kernel_rfl) (by kernel_rfl) (fun _ _ _ h => h) (by rfl) (by assumption) (v := ?_) ?_ ?_
        rotate_left
        · intro w hSw; (try dsimp only at hSw); go_simp; (try with_reducible rfl)
        try simp only [Act.put, List.setIfInBounds_toArray, List.set_cons_zero, List.set_cons_succ]
        refine take_yes 6 134 rfl rfl (by kernel_rfl) (by kernel_rfl) (by kernel_rfl) (fun _ _ _ h => h) (by rfl) (by assumption) (v := ?_) ?_ ?_
        rotate_left
        · intro w hSw; (try dsimp only at hSw); go_simp; (try with_reducible rfl)
        try simp only [Act.put, List.setIfInBounds_toArray, List.set_cons_zero, List.set_cons_succ]
        refine take_yes 7 135 rfl rfl (by kernel_rfl) (by kernel_rfl) (by kernel_rfl) (fun _ _ _ h => h) (by rfl) (by assumption) (v := ?_) ?_ ?_
        rotate_left
        · intro w hSw; (try dsimp only at hSw); go_simp; (try with_reducible rfl)
        try simp only [Act.put, List.setIfInBounds_toArray, List.set_cons_zero, List.set_cons_succ]
        refine wpAnyH_ready (rs := [8]) (by kernel_rfl) (by simp) ?_
        refine AllReadyH.cons (o := _) rfl (fun K hK => ?_) AllReadyH.nil
        go_simp
        refine (HY.out _).mono ?_
        rintro r w8 ⟨rfl, hF8⟩
        go_wp2_with fail
        refine hK.out _ _ ?_ (fun hHeld => ?_)
        · (try dsimp only); first | assumption | exact Rest.step (by assumption) (by assumption)
        clear hK K
        try simp only [Act.put, List.setIfInBounds_toArray, List.set_cons_zero, List.set_cons_succ]
        refine take_yes 9 137 rfl rfl (by kernel_rfl) (by kernel_rfl) (by kernel_rfl) (fun _ _ _ h => h) (by rfl) (by assumption) (v := ?_) ?_ ?_
        rotate_left
        · intro w hSw; (try dsimp only at hSw); go_simp; (try with_reducible rfl)
        try simp only [Act.put, List.setIfInBounds_toArray, List.set_cons_zero, List.set_cons_succ]
        refine take_yes 10 138 rfl rfl (by kernel_rfl) (by kernel_rfl) (by kernel_rfl) (fun _ _ _ h => h) (by rfl) (by assumption) (v := ?_) ?_ ?_
        rotate_left
        · intro w hSw; (try dsimp only at hSw); go_simp; (try with_reducible rfl)
        try simp only [Act.put, List.setIfInBounds_toArray, List.set_cons_zero, List.set_cons_succ]
        refine take_no 11 139 rfl rfl (by kernel_rfl) (by kernel_rfl) (by kernel_rfl) (fun _ _ _ h => h) (by rfl) (by assumption) ?_
        try simp only [Act.put, List.setIfInBounds_toArray, List.set_cons_zero, List.set_cons_succ]
        refine take_no 12 140 rfl rfl (by kernel_rfl) (by kernel_rfl) (by kernel_rfl) (fun _ _ _ h => h) (by rfl) (by assumption) ?_
        try simp only [Act.put, List.setIfInBounds_toArray, List.set_cons_zero, List.set_cons_succ]
        refine take_no 13 141 rfl rfl (by kernel_rfl) (by kernel_rfl) (by kernel_rfl) (fun _ _ _ h => h) (by rfl) (by assumption) ?_
        try simp only [Act.put, List.setIfInBounds_toArray, List.set_cons_zero, List.set_cons_succ]
        refine take_yes 14 142 rfl rfl (by kernel_rfl) (by kernel_rfl) (by kernel_rfl) (fun _ _ _ h => h) (by rfl) (by assumption) (v := ?_) ?_ ?_
        rotate_left
        · intro w hSw; (try dsimp only at hSw); go_simp; (try with_reducible rfl)
        try simp only [Act.put, List.setIfInBounds_toArray, List.set_cons_zero, List.set_cons_succ]
        refine take_yes 15 143 rfl rfl (by kernel_rfl) (by kernel_rfl) (by kernel_rfl) (fun _ _ _ h => h) (by rfl) (by assumption) (v := ?_) ?_ ?_
        rotate_left
        · intro w hSw; (try dsimp only at hSw); go_simp; (try with_reducible rfl)
        try simp only [Act.put, List.setIfInBounds_toArray, List.set_cons_zero, List.set_cons_succ]
        refine take_no 16 144 rfl rfl (by kernel_rfl) (by kernel_rfl) (by kernel_rfl) (fun _ _ _ h => h) (by rfl) (by assumption) ?_
        try simp only [Act.put, List.setIfInBounds_toArray, List.set_cons_zero, List.set_cons_succ]
        refine take_no 17 145 rfl rfl (by kernel_rfl) (by kernel_rfl) (by kernel_rfl) (fun _ _ _ h => h) (by rfl) (by assumption) ?_
        try simp only [Act.put, List.setIfInBounds_toArray, List.set_cons_zero, List.set_cons_succ]
        refine take_no 18 146 rfl rfl (by kernel_rfl) (by kernel_rfl) (by kernel_rfl) (fun _ _ _ h => h) (by rfl) (by assumption) ?_
        try simp only [Act.put, List.setIfInBounds_toArray, List.set_cons_zero, List.set_cons_succ]
        refine take_no 19 147 rfl rfl (by kernel_rfl) (by kernel_rfl) (by kernel_rfl) (fun _ _ _ h => h) (by rfl) (by assumption) ?_
        try simp only [Act.put, List.setIfInBounds_toArray, List.set_cons_zero, List.set_cons_succ]
        refine take_no 20 148 rfl rfl (by kernel_rfl) (by kernel_rfl) (by kernel_rfl) (fun _ _ _ h => h) (by rfl) (by assumption) ?_
        try simp only [Act.put, List.setIfInBounds_toArray, List.set_cons_zero, List.set_cons_succ]
        refine take_no 21 149 rfl rfl (by kernel_rfl) (by kernel_rfl) (by kernel_rfl) (fun _ _ _ h => h) (by rfl) (by assumption) ?_
        try simp only [Act.put, List.setIfInBounds_toArray, List.set_cons_zero, List.set_cons_succ]
        refine take_no 22 150 rfl rfl (by kernel_rfl) (by kernel_rfl) (by kernel_rfl) (fun _ _ _ h => h) (by rfl) (by assumption) ?_
        try simp only [Act.put, List.setIfInBounds_toArray, List.set_cons_zero, List.set_cons_succ]
        refine take_no 23 151 rfl rfl (by kernel_rfl) (by kernel_rfl) (by kernel_rfl) (fun _ _ _ h => h) (by rfl) (by assumption) ?_
        try simp only [Act.put, List.setIfInBounds_toArray, List.set_cons_zero, List.set_cons_succ]
        refine take_no 24 152 rfl rfl (by kernel_rfl) (by kernel_rfl) (by kernel_rfl) (fun _ _ _ h => h) (by rfl) (by assumption) ?_
        try simp only [Act.put, List.setIfInBounds_toArray, List.set_cons_zero, List.set_cons_succ]
        refine take_no 25 153 rfl rfl (by kernel_rfl) (by kernel_rfl) (by kernel_rfl) (fun _ _ _ h => h) (by rfl) (by assumption) ?_
        try simp only [Act.put, List.setIfInBounds_toArray, List.set_cons_zero, List.set_cons_succ]
        refine take_no 26 154 rfl rfl (by kernel_rfl) (by kernel_rfl) (by kernel_rfl) (fun _ _ _ h => h) (by rfl) (by assumption) ?_
        try simp only [Act.put, List.setIfInBounds_toArray, List.set_cons_zero, List.set_cons_succ]
        refine take_no 27 155 rfl rfl (by kernel_rfl) (by kernel_rfl) (by kernel_rfl) (fun _ _ _ h => h) (by rfl) (by assumption) ?_
        try simp only [Act.put, List.setIfInBounds_toArray, List.set_cons_zero, List.set_cons_succ]
        refine take_no 28 156 rfl rfl (by kernel_rfl) (by kernel_rfl) (by kernel_rfl) (fun _ _ _ h => h) (by rfl) (by assumption) ?_
        try simp only [Act.put, List.setIfInBounds_toArray, List.set_cons_zero, List.set_cons_succ]
        refine take_no 29 157 rfl rfl (by kernel_rfl) (by kernel_rfl) (by kernel_rfl) (fun _ _ _ h => h) (by rfl) (by assumption) ?_
        try simp only [Act.put, List.setIfInBounds_toArray, List.set_cons_zero, List.set_cons_succ]
        refine take_no 30 158 rfl rfl (by kernel_rfl) (by kernel_rfl) (by kernel_rfl) (fun _ _ _ h => h) (by rfl) (by assumption) ?_
        try simp only [Act.put, List.setIfInBounds_toArray, List.set_cons_zero, List.set_cons_succ]
        refine take_no 31 159 rfl rfl (by kernel_rfl) (by kernel_rfl) (by kernel_rfl) (fun _ _ _ h => h) (by rfl) (by assumption) ?_
        try simp only [Act.put, List.setIfInBounds_toArray, List.set_cons_zero, List.set_cons_succ]
        refine take_no 32 160 rfl rfl (by kernel_rfl) (by kernel_rfl) (by kernel_rfl) (fun _ _ _ h => h) (by rfl) (by assumption) ?_
        try simp only [Act.put, List.setIfInBounds_toArray, List.set_cons_zero, List.set_cons_succ]
        refine take_no 33 161 rfl rfl (by kernel_rfl) (by kernel_rfl) (by kernel_rfl) (fun _ _ _ h => h) (by rfl) (by assumption) ?_
        try simp only [Act.put, List.setIfInBounds_toArray, List.set_cons_zero, List.set_cons_succ]
        refine take_no 34 162 rfl rfl (by kernel_rfl) (by kernel_rfl) (by kernel_rfl) (fun _ _ _ h => h) (by rfl) (by assumption) ?_
        try simp only [Act.put, List.setIfInBounds_toArray, List.set_cons_zero, List.set_cons_succ]
        refine take_no 35 163 rfl rfl (by kernel_rfl) (by kernel_rfl) (by kernel_rfl) (fun _ _ _ h => h) (by rfl) (by assumption) ?_
        try simp only [Act.put, List.setIfInBounds_toArray, List.set_cons_zero, List.set_cons_succ]
        refine take_no 36 164 rfl rfl (by kernel_rfl) (by kernel_rfl) (by kernel_rfl) (fun _ _ _ h => h) (by rfl) (by assumption) ?_
        try simp only [Act.put, List.setIfInBounds_toArray, List.set_cons_zero, List.set_cons_succ]
        refine take_no 37 165 rfl rfl (by kernel_rfl) (by kernel_rfl) (by kernel_rfl) (fun _ _ _ h => h) (by rfl) (by assumption) ?_
        try simp only [Act.put, List.setIfInBounds_toArray, List.set_cons_zero, List.set_cons_succ]
        refine take_no 38 166 rfl rfl (by kernel_rfl) (by kernel_rfl) (by kernel_rfl) (fun _ _ _ h => h) (by rfl) (by assumption) ?_
        try simp only [Act.put, List.setIfInBounds_toArray, List.set_cons_zero, List.set_cons_succ]
        refine take_no 39 167 rfl rfl (by kernel_rfl) (by kernel_rfl) (by kernel_rfl) (fun _ _ _ h => h) (by rfl) (by assumption) ?_
        try simp only [Act.put, List.setIfInBounds_toArray, List.set_cons_zero, List.set_cons_succ]
        refine take_no 40 168 rfl rfl (by kernel_rfl) (by kernel_rfl) (by kernel_rfl) (fun _ _ _ h => h) (by rfl) (by assumption) ?_
        try simp only [Act.put, List.setIfInBounds_toArray, List.set_cons_zero, List.set_cons_succ]
        refine take_yes 41 169 rfl rfl (by kernel_rfl) (by kernel_rfl) (by kernel_rfl) (fun _ _ _ h => h) (by rfl) (by assumption) (v := ?_) ?_ ?_
        rotate_left
        · intro w hSw; (try dsimp only at hSw); go_simp; (try with_reducible rfl)
        try simp only [Act.put, List.setIfInBounds_toArray, List.set_cons_zero, List.set_cons_succ]
        refine wpAnyH_done (by kernel_rfl) ?_ _
        clear hG HX HY
        go_wp2
        go_meet
        exact ⟨rfl, hHeld.2⟩
  case rest =>
    clear hR8
    obtain ⟨rfl, hX9, hS9, hC9, ⟨hP9, hgp9⟩, ⟨hQ9, hgq9⟩, hF9⟩ := hcut
    have hq9 := hX9.lt
    have hc9 := hC9.lt
    clear hX9 hP9
    have HJ := Lib.hid (sjudge_any good (by decide) (by decide) (by decide) hS9)
    go_wp2_with fail
    refine HJ.out.mono ?_
    rintro e wa ⟨gr, cap, ha, rfl, hgr, hgrl, hRa, hha, hhl, hHa, hSa, hFa⟩
    rw [Hcc.out] at hRa hHa
    have hCa := hFa.blk hC9 (by simp; omega)
    have hQa := hQ9.fr hFa hgq9 (by simp; omega)
    have hFA := hF9.sub hFa (fun z hz => by simp at hz; subst hz; right; omega)
    have hza := hFa.size
    have hgqa : gq < wa.heap.size := by omega
    clear HJ hS9 hC9 hQ9 hF9 hFa
    obtain ⟨p0, p1, p2, p3⟩ := id hQa
    have HA := Lib.hid (sagain_yes 1 none 0 0 QL ha cc 1 [] (by decide) (by decide) (by decide) (by decide) hHa hhl hSa)
    go_wp2_with fail
    refine HA.out.mono ?_
    rintro e wb ⟨gt, capt, rfl, hgt, hgtl, hTb, hFb⟩
    have hzb := hFb.size
    have hK : Kept w gs gc gq gr gt QL cc (csv [115, 114, 118] 2 3 1 v false false 0 0 true good (some ⟨ha, 0, none⟩) 1 1) (ccl nm sec true true 1 false false) wb :=
      ⟨hFb.blk hSa (by simp), hFb.blk hCa (by simp), ⟨hQa.fr hFb hgqa (by simp), by omega⟩, ⟨hRa.fr hFb hgrl (by simp), by omega⟩, ⟨hTb, hgtl⟩, hFA.trans hFb⟩
    clear HA hSa hCa hQa hRa hTb hHa hFA hFb p0 p1 p2 p3
    obtain ⟨p0, p1, p2, p3⟩ := hK.2.2.2.1.1
    have HT2 := Lib.hid (ctake_said cc 1 none 0 0 [] Hc1.out Hc2.out (by decide) hK.2.1)
    go_wp2_with fail
    refine HT2.out.mono ?_
    rintro e wc ⟨rfl, hCc, hFc⟩
    rw [Hc3.out] at hCc
    have hKc := hK.client hCc hFc (by omega) (by omega) (by omega) (by omega) (by omega)
    clear HT2 hK hCc hFc p0 p1 p2 p3
    have HD := Lib.hid (sdone_any (by decide) hKc.1)
    go_wp2_with fail
    refine HD.out.mono ?_
    rintro e wd ⟨rfl, hFd⟩
    have hKd := hKc.on hFd
    clear HD hKc hFd
    have HD := Lib.hid (cdone_any hKd.2.1)
    go_wp2_with fail
    refine HD.out.mono ?_
    rintro e we ⟨rfl, hFe⟩
    have hKe := hKd.on hFe
    clear HD hKd hFe
    obtain ⟨p0, p1, p2, p3⟩ := hKe.2.2.1.1
    have HI := Lib.hid (stake_idle 2 1 none 0 0 QL (by decide) hKe.1)
    go_wp2_with fail
    refine HI.out.mono ?_
    rintro e wf ⟨rfl, hFf⟩
    have hKf := hKe.on hFf
    clear HI hKe hFf p0 p1 p2 p3
    go_wp2_with (refine wpList_store_blk rfl 39 (.tmp 25) (.tmp 202) rfl wf.heap.size 39 clz clz ?k0 rfl rfl rfl (by kernel_rfl) clz_one ?_)
    case k0 => exact Blk.new _ _ _
    intro wg hwg hQg
    have hKg := hKf.on (w3 := wg) (by rw [hwg.out]; exact ((Fr.refl _ _).alloc _).setCells _ _ _ (Or.inl (Nat.le_refl _)))
    clear hwg hQg hKf
    go_wp2_with fail
    refine (alive14 _).mono ?_
    rintro e wh ⟨rfl, hFh⟩
    have hKh := hKg.on hFh
    clear hKg hFh
    have HP := Lib.hid (samep_one cc 1 [] cap capt hKh.2.2.2.1.1 hKh.2.2.2.2.1.1)
    go_wp2_with fail
    refine HP.out.mono ?_
    rintro e wi ⟨rfl, hFi⟩
    have hKi := hKh.on hFi
    clear HP hKh hFi
    have HN := Lib.hid (sjudge_no (!good) (by decide) hKi.1)
    go_wp2_with fail
    refine HN.out.mono ?_
    rintro e wj ⟨rfl, rfl⟩
    have hfin := hKi.2.2.2.2.2
    clear HN hKi
    go_wp2
    go_ret
    exact ⟨rfl, hfin.below (Nat.le_refl _) (by simp)⟩

set_option maxRecDepth 100000 in
set_option maxHeartbeats 2000000 in
theorem chapProves_walk (w : World) (n : ByteArray) (hn : n.size ≤ 140737488351232) (s : ByteArray) (hs : s.size ≤ 140737488351232) (o : ByteArray) (ho : o.size ≤ 140737488351232) (v : ByteArray) (hv : v.size ≤ 140737488351232) (g : Bool) :
    Calls Try.prog 5 #[.string n, .string s, .string o, .string v, .bool g] w fun e w' => e = .returned (.bool true) ∧ Below w.heap.size w w' := by
  obtain ⟨n, rfl⟩ : ∃ l, n = B l := ⟨_, B_of n⟩
  obtain ⟨s, rfl⟩ : ∃ l, s = B l := ⟨_, B_of s⟩
  obtain ⟨o, rfl⟩ : ∃ l, o = B l := ⟨_, B_of o⟩
  obtain ⟨v, rfl⟩ : ∃ l, v = B l := ⟨_, B_of v⟩
  rw [B_size] at hn hs ho hv
  by_cases hS : n.length ≤ 60 ∧ s.length ≤ 60 ∧ o.length ≤ 60 ∧ 1 ≤ v.length ∧ v.length ≤ 60
  · exact chapProves_small w n s o v g hS.1 hS.2.1 hS.2.2.1 hS.2.2.2.1 hS.2.2.2.2
  · have hX : 60 < (n.length : Int) ∨ ¬ 60 < (n.length : Int) ∧ 60 < (s.length : Int) ∨ ¬ 60 < (n.length : Int) ∧ ¬ 60 < (s.length : Int) ∧ 60 < (o.length : Int) ∨
        ¬ 60 < (n.length : Int) ∧ ¬ 60 < (s.length : Int) ∧ ¬ 60 < (o.length : Int) ∧ (v.length : Int) < 1 ∨ ¬ 60 < (n.length : Int) ∧ ¬ 60 < (s.length : Int) ∧ ¬ 60 < (o.length : Int) ∧ ¬ (v.length : Int) < 1 ∧ 60 < (v.length : Int) := by omega
    clear hS
    rcases hX with hX | ⟨h1, hX⟩ | ⟨h1, h2, hX⟩ | ⟨h1, h2, h3, hX⟩ | ⟨h1, h2, h3, h4, hX⟩
    all_goals
      go_enter Try.func5, Try.ntmps5
      go_wp2_with fail
      refine (alive14 _).mono ?_
      rintro e w3 ⟨rfl, hF3⟩
      go_wp2
      go_ret
      exact ⟨rfl, hF3.below (Nat.le_refl _) (by simp)⟩
end Go.Proofs.Ytgkibgglalginaa


