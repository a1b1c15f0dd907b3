/- the document reads a packet and tags (printed by tools/gen_dhoa.py). -/
import Derived.Test.YtfchbppfbepelaaGreatDHo9
namespace Go.Proofs.YtfchbppfbepelaaGreat
open Go.RowKit
set_option linter.unusedVariables false
theorem rint1 {k : IntKind} {a b : Int} (h : a = b) : Ending.returned (.int k a) = .returned (.int k b) := by rw [h]
theorem num_r (l : List UInt8) (k : Nat) (w : World) (hk : k + 2 ≤ l.length) (hl : l.length ≤ 1000000) :
    Calls Tryz.prog 293 #[.string (B l), .int .i64 k] w fun e w' => e = .returned (.int .i64 (getV l k 2)) ∧ ∃ n, w' = w.drewN n := by
  have g0 := getD_at l (k + 0) (by omega)
  have g1 := getD_at l (k + 1) (by omega)
  have b0 := byte_bd (l[k + 0]'(by omega))
  have b1 := byte_bd (l[k + 1]'(by omega))
  have e1 : wrap64 (l[k].toNat : Int) = (l[k].toNat : Int) := wrap_byte _
  have e2 : wrap64 (l[k + 1].toNat : Int) = (l[k + 1].toNat : Int) := wrap_byte _
  have e3 : wrap64 ((l[k].toNat : Int) * 256) = (l[k].toNat : Int) * 256 := IntWalk.wrap64_in _ (by simp only [Nat.add_zero] at b0; omega)
  have e4 : wrap64 ((l[k].toNat : Int) * 256 + (l[k + 1].toNat : Int)) = (l[k].toNat : Int) * 256 + (l[k + 1].toNat : Int) := IntWalk.wrap64_in _ (by simp only [Nat.add_zero] at b0; omega)
  have ev : getV l k 2 = (l[k].toNat : Int) * 256 + (l[k + 1].toNat : Int) := by rw [getV, getV, getV, g0, g1]; simp
  have Ev := Lib.hid ev
  have i0 : (k : Int) < (l.length : Int) := by omega
  have i1 : (k : Int) + 1 < (l.length : Int) := by omega
  have i2 : (0 : Int) ≤ (k : Int) + 1 := by omega
  have hw : IntKind.i64.wrap ((k : Int) + 1) = (k : Int) + 1 := IntWalk.i64_in _ (by omega)
  clear g0 g1 b0 b1 ev
  go_enter Tryz.func293, Tryz.ntmps293
  go_wp2
  go_quiet (fail)
  go_wp2
  go_ret
  refine ⟨rint1 ?_, _, rfl⟩
  rw [Ev.out]
  exact e4

theorem num_d (L p r : List UInt8) (v : Int) (k : Nat) (w : World) (hL : L = p ++ (be 2 v ++ r)) (hk : p.length = k) (h0 : 0 ≤ v) (h1 : v < 65536) (hl : L.length ≤ 1000000) :
    Calls Tryz.prog 293 #[.string (B L), .int .i64 k] w fun e w' => e = .returned (.int .i64 v) ∧ Fr [] w w' := by
  have hg := getV_be p r v h0 h1
  rw [← hL, hk] at hg
  have hkl : k + 2 ≤ L.length := by rw [hL, ← hk]; simp [be_length]
  refine (num_r L k w hkl hl).mono ?_
  rintro e w' ⟨rfl, n, rfl⟩
  exact ⟨by rw [hg], (Fr.refl _ _).drewN n⟩
theorem num_f (L : List UInt8) (k : Nat) (w : World) (hk : k + 2 ≤ L.length) (hl : L.length ≤ 1000000) :
    Calls Tryz.prog 293 #[.string (B L), .int .i64 k] w fun e w' => e = .returned (.int .i64 (getV L k 2)) ∧ Fr [] w w' := by
  refine (num_r L k w hk hl).mono ?_
  rintro e w' ⟨rfl, n, rfl⟩
  exact ⟨rfl, (Fr.refl _ _).drewN n⟩
section
variable {w : World}
set_option maxRecDepth 100000 in
set_option maxHeartbeats 8000000 in
theorem dget_laid (c ss : Int) (d tl : List UInt8) (htl : (tl.length : Int) ≤ 3000) (hc0 : 0 ≤ c) (hc1 : c ≤ 255) (hs0 : 0 ≤ ss) (hs1 : ss ≤ 65535) (hd : d.length ≤ 1494) :
    Calls Tryz.prog 202 #[.string (Go.Proofs.YtfchbppfbepelaaGreat.B (discB c ss d ++ tl))] w fun e w' => e = .returned (.tuple #[.agg #[.int .i64 c, .int .i64 ss, .string (Go.Proofs.YtfchbppfbepelaaGreat.B d)], .int .i64 0]) ∧ Fr [] w w' := by
  have hle : ¬ (d.length : Int) > 1494 := by omega
  have f1 : IntKind.i64.wrap (6 + (d.length : Int)) = 6 + (d.length : Int) := by rw [IntKind.wrap_i64]; omega
  have f0 : wrap64 (6 + (d.length : Int)) = 6 + (d.length : Int) := by unfold wrap64; omega
  have f2 : (6 : Int) + (d.length : Int) ≤ (d.length : Int) + (tl.length : Int) + 4 + 1 + 1 := by omega
  have f6 : (1 : Int) < (d.length : Int) + (tl.length : Int) + 4 + 1 + 1 := by omega
  have f3 : (0 : Int) ≤ 6 + (d.length : Int) := by omega
  have f4 : (6 : Int) ≤ 6 + (d.length : Int) := by omega
  have f5 : (6 + (d.length : Int)).toNat = 6 + d.length := by omega
  obtain ⟨R, hR⟩ : ∃ R, be 2 ss ++ (be 2 (d.length : Int) ++ (d ++ tl)) = R := ⟨_, rfl⟩
  obtain ⟨cb, hcb⟩ : ∃ x, UInt8.ofNat c.toNat = x := ⟨_, rfl⟩
  have hL : discB c ss d ++ tl = 17 :: cb :: R := by rw [← hR, ← hcb, show discB c ss d = 17 :: UInt8.ofNat c.toNat :: (be 2 ss ++ (be 2 (d.length : Int) ++ d)) from rfl]; simp only [List.cons_append, List.append_assoc]
  have hRl : R.length = d.length + tl.length + 4 := by rw [← hR]; simp [be_length]; omega
  have hcn : (cb.toNat : Int) = c := by rw [← hcb, UInt8.toNat_ofNat']; omega
  have hLl : (17 :: cb :: R).length = d.length + tl.length + 6 := by simp [hRl]
  have N2 : Hid (∀ (v : Int) W, v = 2 → Calls Tryz.prog 293 #[.string (Go.Proofs.YtfchbppfbepelaaGreat.B (17 :: cb :: R)), .int .i64 v] W fun e w' => e = .returned (.int .i64 ss) ∧ Fr [] W w') := Lib.hid fun v W hv => hv ▸
    num_d _ [17, cb] (be 2 (d.length : Int) ++ (d ++ tl)) ss 2 W (by rw [← hR]; rfl) rfl hs0 (by omega) (by omega)
  have N4 : Hid (∀ (v : Int) W, v = 4 → Calls Tryz.prog 293 #[.string (Go.Proofs.YtfchbppfbepelaaGreat.B (17 :: cb :: R)), .int .i64 v] W fun e w' => e = .returned (.int .i64 (d.length : Int)) ∧ Fr [] W w') := Lib.hid fun v W hv => hv ▸
    num_d _ (17 :: cb :: be 2 ss) (d ++ tl) (d.length : Int) 4 W (by rw [← hR]; simp) (by simp [be_length]) (by omega) (by omega) (by omega)
  have hdrop : (17 :: cb :: R).drop 6 = d ++ tl := by
    rw [← hR]
    show (be 2 ss ++ (be 2 (d.length : Int) ++ (d ++ tl))).drop 4 = d ++ tl
    rw [← List.append_assoc, List.drop_append_of_le_length (by simp [be_length]), List.drop_of_length_le (by simp [be_length]), List.nil_append]
  have hd4 : R.drop 4 = d ++ tl := hdrop
  have HD : Hid (Go.Proofs.YtfchbppfbepelaaGreat.B (List.take d.length (List.drop 4 R)) = Go.Proofs.YtfchbppfbepelaaGreat.B d) := Lib.hid (by rw [hd4, List.take_left])
  have hw : wrap64 (cb.toNat : Int) = c := by clear f0 f1 f2 f3 f4 f5 f6 hle hRl hLl hL hdrop hd4 htl N2 N4 HD; rw [hcn]; unfold wrap64; omega
  have hwi : IntKind.i64.wrap (cb.toNat : Int) = c := by clear f0 f1 f2 f3 f4 f5 f6 hle hRl hLl hL hdrop hd4 htl hw N2 N4 HD; rw [hcn, IntKind.wrap_i64]; omega
  rw [hL]
  clear hd4 hR hcb hL hdrop hcn hLl hs0 hs1 hc0 hc1
  have hF := (Fr.refl [] w).alloc (.cells #[.int .i64 0, .int .i64 0, .string ⟨#[]⟩] 259 (0, 0))
  have hN := Blk.new w #[.int .i64 0, .int .i64 0, .string ⟨#[]⟩] 259
  go_enter Tryz.func202, Tryz.ntmps202
  go_wp2_with fail
  refine (N4.out _ _ (by with_reducible rfl)).mono ?_
  rintro e w1 ⟨rfl, hF0⟩
  have hN1 := hF0.blk hN (by simp)
  have HF := Lib.hid (hF.trans hF0)
  obtain ⟨q, hq⟩ : ∃ q, w.heap.size = q := ⟨_, rfl⟩
  rw [hq] at hN1 ⊢
  have HQ := Lib.hid hq
  clear hq hN hF hF0 N4
  go_wp2_with fail
  refine wp_region_held_drew (S := fun W => Fr [q] w1 W) (by kernel_rfl) ?_ (fun hHeld => ?_)
  · (try dsimp only); exact (Fr.refl _ _).drew
  have hN2 : Blk w1.drew q #[.int .i64 0, .int .i64 0, .string ⟨#[]⟩] 259 := hN1.drew
  obtain ⟨v0, hv⟩ : ∃ V, w1.drew = V := ⟨_, rfl⟩
  have hF2 : Fr [] w1 v0 := by rw [← hv]; exact (Fr.refl _ _).drew
  rw [hv] at hHeld hN2 ⊢
  clear hv hN1
  refine take_yes 0 24 rfl rfl (by kernel_rfl) (by kernel_rfl) (by kernel_rfl) (fun _ _ _ h => h) (by rfl) (by assumption) (v := ?_) ?_ ?_
  rotate_left
  · intro w hSw; (try dsimp only at hSw); go_simp; (try with_reducible rfl)
  try simp only [Act.put, List.setIfInBounds_toArray, List.set_cons_zero, List.set_cons_succ]
  refine take_yes 1 25 rfl rfl (by kernel_rfl) (by kernel_rfl) (by kernel_rfl) (fun _ _ _ h => h) (by rfl) (by assumption) (v := ?_) ?_ ?_
  rotate_left
  · intro w hSw; (try dsimp only at hSw); go_simp; (try with_reducible rfl)
  try simp only [Act.put, List.setIfInBounds_toArray, List.set_cons_zero, List.set_cons_succ]
  refine take_yes 2 26 rfl rfl (by kernel_rfl) (by kernel_rfl) (by kernel_rfl) (fun _ _ _ h => h) (by rfl) (by assumption) (v := ?_) ?_ ?_
  rotate_left
  · intro w hSw; (try dsimp only at hSw); go_simp; (try with_reducible rfl)
  try simp only [Act.put, List.setIfInBounds_toArray, List.set_cons_zero, List.set_cons_succ]
  refine take_yes 3 27 rfl rfl (by kernel_rfl) (by kernel_rfl) (by kernel_rfl) (fun _ _ _ h => h) (by rfl) (by assumption) (v := ?_) ?_ ?_
  rotate_left
  · intro w hSw; (try dsimp only at hSw); go_simp; (try with_reducible rfl)
  try simp only [Act.put, List.setIfInBounds_toArray, List.set_cons_zero, List.set_cons_succ]
  refine take_yes 5 29 rfl rfl (by kernel_rfl) (by kernel_rfl) (by kernel_rfl) (fun _ _ _ h => h) (by rfl) (by assumption) (v := ?_) ?_ ?_
  rotate_left
  · intro w hSw; (try dsimp only at hSw); go_simp; (try with_reducible rfl)
  try simp only [Act.put, List.setIfInBounds_toArray, List.set_cons_zero, List.set_cons_succ]
  refine take_yes 6 30 rfl rfl (by kernel_rfl) (by kernel_rfl) (by kernel_rfl) (fun _ _ _ h => h) (by rfl) (by assumption) (v := ?_) ?_ ?_
  rotate_left
  · intro w hSw; (try dsimp only at hSw); go_simp; (try with_reducible rfl)
  try simp only [Act.put, List.setIfInBounds_toArray, List.set_cons_zero, List.set_cons_succ]
  refine take_yes 7 31 rfl rfl (by kernel_rfl) (by kernel_rfl) (by kernel_rfl) (fun _ _ _ h => h) (by rfl) (by assumption) (v := ?_) ?_ ?_
  rotate_left
  · intro w hSw; (try dsimp only at hSw); go_simp; (try with_reducible rfl)
  try simp only [Act.put, List.setIfInBounds_toArray, List.set_cons_zero, List.set_cons_succ]
  refine take_yes 8 32 rfl rfl (by kernel_rfl) (by kernel_rfl) (by kernel_rfl) (fun _ _ _ h => h) (by rfl) (by assumption) (v := .string (Go.Proofs.YtfchbppfbepelaaGreat.B d)) ?_ ?_
  · intro w hSw; (try dsimp only at hSw); go_simp; rw [HD.out]
  try simp only [Act.put, List.setIfInBounds_toArray, List.set_cons_zero, List.set_cons_succ]
  refine wpAnyH_ready (rs := [4]) (by kernel_rfl) (by simp) ?_
  refine AllReadyH.cons (o := _) rfl (fun K hK => ?_) AllReadyH.nil
  go_simp
  refine (N2.out _ _ (by with_reducible rfl)).mono ?_
  rintro e w4 ⟨rfl, hF4⟩
  (try go_wp2_with fail)
  refine hK.out _ _ ?_ (fun hHeld => ?_)
  · (try dsimp only); exact Fr.mono (hF2.trans hF4) (by simp)
  clear hK K
  try simp only [Act.put, List.setIfInBounds_toArray, List.set_cons_zero, List.set_cons_succ]
  have hN5 := hF4.blk hN2 (by simp)
  have hF6 := hF2.trans hF4
  refine take_yes 9 33 rfl rfl (by kernel_rfl) (by kernel_rfl) (by kernel_rfl) (fun _ _ _ h => h) (by rfl) (by assumption) (v := ?_) ?_ ?_
  rotate_left
  · intro w hSw; (try dsimp only at hSw); go_simp; (try with_reducible rfl)
  try simp only [Act.put, List.setIfInBounds_toArray, List.set_cons_zero, List.set_cons_succ]
  refine wpAnyH_ready (rs := [10]) (by kernel_rfl) (by simp) ?_
  refine AllReadyH.cons (o := _) rfl (fun K hK => ?_) AllReadyH.nil
  rw [if_pos (by rfl)]
  refine wp_store_mid 259 (.tmp 2) (.tmp 33) rfl q 0 #[.int .i64 c, .int .i64 ss, .string (Go.Proofs.YtfchbppfbepelaaGreat.B d)] rfl rfl (hN5.there _ (by exact Nat.le_refl _)) (by kernel_rfl) (by simp [Value.oneCell']) ?_
  have hN7 := hN5.setCells #[.int .i64 c, .int .i64 ss, .string (Go.Proofs.YtfchbppfbepelaaGreat.B d)] rfl
  have hF7 : Fr [q] w1 (w4.setCells q 0 (#[.int .i64 c, .int .i64 ss, .string (Go.Proofs.YtfchbppfbepelaaGreat.B d)] : Array Value).toList) := (hF6.mono (S' := [q]) (by simp)).setCells _ _ _ (Or.inr (by simp))
  obtain ⟨w7, hw7⟩ : ∃ V, w4.setCells q 0 (#[.int .i64 c, .int .i64 ss, .string (Go.Proofs.YtfchbppfbepelaaGreat.B d)] : Array Value).toList = V := ⟨_, rfl⟩
  rw [hw7] at hN7 hF7 ⊢
  refine hK.out _ _ ?_ (fun hHeld => ?_)
  · (try dsimp only); exact hF7
  clear hK K
  try simp only [Act.put, List.setIfInBounds_toArray, List.set_cons_zero, List.set_cons_succ]
  refine take_yes 11 3 rfl rfl (by kernel_rfl) (by kernel_rfl) (by kernel_rfl) (fun _ _ _ h => h) (by rfl) (by assumption) (v := ?_) ?_ ?_
  rotate_left
  · intro w hSw; (try dsimp only at hSw); go_simp; (try with_reducible rfl)
  try simp only [Act.put, List.setIfInBounds_toArray, List.set_cons_zero, List.set_cons_succ]
  refine wpAnyH_done (by kernel_rfl) ?_ _
  have HFE := Lib.hid (HF.out.fresh1 hF7 (by have := HQ.out; omega))
  have HN7 := Lib.hid hN7
  go_wp2_with fail
  exact ret_cell2 2 3 259 rfl q 259 _ _ HN7.out rfl Tryz.underlying259 rfl (by kernel_rfl) rfl ⟨rfl, HFE.out⟩
set_option maxRecDepth 100000 in
set_option maxHeartbeats 8000000 in
theorem dget_none (b : List UInt8) (hl : b.length ≤ 3000) (h : pkt b = none) :
    Calls Tryz.prog 202 #[.string (B b)] w (NoPkt w) := by
  have hF := (Fr.refl [] w).alloc (.cells #[.int .i64 0, .int .i64 0, .string ⟨#[]⟩] 259 (0, 0))
  have hN := Blk.new w #[.int .i64 0, .int .i64 0, .string ⟨#[]⟩] 259
  rcases pkt_none h with h1 | ⟨x, r, rfl, hr, h2⟩
  · have h1 : (b.length : Int) < 6 := by omega
    clear h
    go_enter Tryz.func202, Tryz.ntmps202
    go_wp2_with fail
    exact ret_cell2 2 3 259 rfl w.heap.size 259 _ _ hN rfl Tryz.underlying259 rfl (by kernel_rfl) rfl ⟨5, by decide, rfl, hF⟩
  · have hrl : r.length + 1 ≤ 3000 := by simpa using hl
    have NB : Hid (∀ (v : Int) (W : World), v = 4 → Calls Tryz.prog 293 #[.string (B (x :: r)), .int .i64 v] W fun e w' => e = .returned (.int .i64 (getV (x :: r) 4 2)) ∧ Fr [] W w') := Lib.hid fun v W hv => by subst hv; exact num_f (x :: r) 4 W (by simp; omega) (by simp; omega)
    have hrI : (r.length : Int) + 1 ≤ 3000 := by omega
    have vb := getV_bd (x :: r) 4 2
    obtain ⟨n, hn⟩ : ∃ n, getV (x :: r) 4 2 = n := ⟨_, rfl⟩
    rw [hn] at NB h2 vb
    clear hn h hl hrl
    have hr1 : (5 : Int) ≤ r.length := by omega
    have hr2 : ¬ (r.length : Int) + 1 < 6 := by omega
    rcases h2 with h2 | ⟨rfl, h3⟩
    · have hx : ((x.toNat : Int) != 17) = true := by
        rw [bne_iff_ne]
        intro e
        have : x.toNat = 17 := by omega
        exact h2 (UInt8.toNat_inj.1 this)
      have hx2 : (x != 17) = true := by simpa using h2
      clear h2 vb NB
      go_enter Tryz.func202, Tryz.ntmps202
      go_wp2_with fail
      exact ret_cell2 2 3 259 rfl w.heap.size 259 _ _ hN rfl Tryz.underlying259 rfl (by kernel_rfl) rfl ⟨4, by decide, rfl, hF⟩
    · rcases h3 with h3 | ⟨h3, h4⟩
      · clear vb
        go_enter Tryz.func202, Tryz.ntmps202
        go_wp2_with fail
        refine (NB.out _ _ (by with_reducible rfl)).mono ?_
        rintro e w1 ⟨rfl, hF1⟩
        have hN1 := hF1.blk hN (by simp)
        have hF1 := hF.trans hF1
        obtain ⟨q, hq⟩ : ∃ q, w.heap.size = q := ⟨_, rfl⟩
        rw [hq] at hN1
        have HQ := Lib.hid hq
        (try rw [hq])
        have z0 := hN1.c 0 _ rfl
        have z1 := hN1.c 1 _ rfl
        have z2 := hN1.c 2 _ rfl
        have f0 := hN1.fz 0
        have f1 := hN1.fz 1
        have f2 := hN1.fz 2
        have HN1 := Lib.hid hN1
        have HF1 := Lib.hid hF1
        have hqs : w.heap.size ≤ q := by rw [hq]; exact Nat.le_refl _
        have HQS := Lib.hid hqs
        clear hq hN hF hN1 hF1 hqs
        go_wp2_with fail
        have hBB := (((HN1.out).set 0 (.int .i64 0)).set 1 (.int .i64 0)).set 2 (.string ⟨#[]⟩)
        have hFF := (((Fr.refl [q] w1).setCell (p := ⟨q, 0, none⟩) (by simp) (.int .i64 0)).setCell (p := ⟨q, 1, none⟩) (by simp) (.int .i64 0)).setCell (p := ⟨q, 2, none⟩) (by simp) (.string ⟨#[]⟩)
        simp only [List.setIfInBounds_toArray, List.set_cons_zero, List.set_cons_succ] at hBB
        have hFR := HF1.out.sub hFF (fun x hx => by simp at hx; subst hx; exact Or.inr HQS.out)
        exact ret_cell2 2 3 259 rfl q 259 _ _ hBB rfl Tryz.underlying259 rfl (by kernel_rfl) rfl ⟨2, by decide, rfl, hFR⟩
      · have h4 : (r.length : Int) + 1 - 6 < n := by simpa using h4
        clear vb
        go_enter Tryz.func202, Tryz.ntmps202
        go_wp2_with fail
        refine (NB.out _ _ (by with_reducible rfl)).mono ?_
        rintro e w1 ⟨rfl, hF1⟩
        have hN1 := hF1.blk hN (by simp)
        have hF1 := hF.trans hF1
        obtain ⟨q, hq⟩ : ∃ q, w.heap.size = q := ⟨_, rfl⟩
        rw [hq] at hN1
        (try rw [hq])
        have z0 := hN1.c 0 _ rfl
        have z1 := hN1.c 1 _ rfl
        have z2 := hN1.c 2 _ rfl
        have f0 := hN1.fz 0
        have f1 := hN1.fz 1
        have f2 := hN1.fz 2
        have HN1 := Lib.hid hN1
        have HF1 := Lib.hid hF1
        have hqs : w.heap.size ≤ q := by rw [hq]; exact Nat.le_refl _
        have HQS := Lib.hid hqs
        clear hq hN hF hN1 hF1 hqs
        go_wp2_with fail
        have hBB := (((HN1.out).set 0 (.int .i64 0)).set 1 (.int .i64 0)).set 2 (.string ⟨#[]⟩)
        have hFF := (((Fr.refl [q] w1).setCell (p := ⟨q, 0, none⟩) (by simp) (.int .i64 0)).setCell (p := ⟨q, 1, none⟩) (by simp) (.int .i64 0)).setCell (p := ⟨q, 2, none⟩) (by simp) (.string ⟨#[]⟩)
        simp only [List.setIfInBounds_toArray, List.set_cons_zero, List.set_cons_succ] at hBB
        have hFR := HF1.out.sub hFF (fun x hx => by simp at hx; subst hx; exact Or.inr HQS.out)
        exact ret_cell2 2 3 259 rfl q 259 _ _ hBB rfl Tryz.underlying259 rfl (by kernel_rfl) rfl ⟨5, by decide, rfl, hFR⟩
theorem dget_some (b : List UInt8) (hl : b.length ≤ 3000) {c ss : Int} {d : List UInt8} (h : pkt b = some (c, ss, d)) :
    Calls Tryz.prog 202 #[.string (Go.Proofs.YtfchbppfbepelaaGreat.B b)] w fun e w' => e = .returned (.tuple #[.agg #[.int .i64 c, .int .i64 ss, .string (Go.Proofs.YtfchbppfbepelaaGreat.B d)], .int .i64 0]) ∧ Fr [] w w' := by
  obtain ⟨t, rfl, ⟨h1, h2⟩, ⟨h3, h4⟩, h5⟩ := pkt_some h
  have ht : (t.length : Int) ≤ 3000 := by rw [List.length_append] at hl; omega
  exact dget_laid c ss d t ht h1 h2 h3 h4 h5
set_option maxRecDepth 100000 in
set_option maxHeartbeats 4000000 in
theorem dfind_any {A : Option Addr} {cap : Nat} {l : List Tg} (k : Int) (h : TgAt w A l) (hl : l.length ≤ 20) (hc : l.length ≤ cap) (hm : cap ≤ maxLen) :
    Calls Tryz.prog 209 #[.slice A l.length cap, .int .i64 k] w fun e w' => e = .returned (.tuple #[.string (B (findS l k)), .int .i64 (findN l k : Nat)]) ∧ Fr [] w w' := by
  have H := Lib.hid h
  unfold maxLen at hm
  clear h
  go_enter Tryz.func209, Tryz.ntmps209
  go_wp2_with fail
  go_loopw [6, 7, 8] (fun sv nv iv wr => ∃ j : Nat, j ≤ l.length ∧ iv = .int .i64 j ∧ sv = .string (B (findS (l.take j) k)) ∧ nv = .int .i64 (findN (l.take j) k : Nat) ∧ Fr [] w wr) (fun _ _ iv _ => l.length - (intOf iv).toNat)
  case atStart => exact ⟨0, by omega, rfl, rfl, rfl, Fr.refl _ _⟩
  case round =>
    obtain ⟨j, hj, rfl, rfl, rfl, hF⟩ := hrel
    by_cases hjl : j < l.length
    · obtain ⟨⟨t, s⟩, ht⟩ : ∃ t, l[j]? = some t := ⟨_, List.getElem?_eq_getElem hjl⟩
      obtain ⟨b, off, rfl, hb, hcell⟩ := H.out j _ ht
      obtain ⟨c0, c1⟩ := hcell _ hF
      simp only at c0 c1
      have HN := Lib.hid (findN_snoc ht k)
      have HS := Lib.hid (findS_snoc ht k)
      have hnl := findN_le (l.take j) k
      rw [List.length_take] at hnl
      obtain ⟨n, hn⟩ : ∃ n, findN (l.take j) k = n := ⟨_, rfl⟩
      obtain ⟨X, hX⟩ : ∃ X, findS (l.take j) k = X := ⟨_, rfl⟩
      rw [hn] at HN HS hnl ⊢
      rw [hX] at HS ⊢
      have hjb : (j : Int) ≤ 20 := by omega
      have hnb : (n : Int) ≤ 20 := by omega
      have HF := Lib.hid hF
      clear hcell ht hb hF hnl hn hX
      by_cases hk : t = k
      · have e : (t == k) = true := by simp [hk]
        by_cases hz : n = 0
        · have e2 : ((n : Int) == 0) = true := by simp [hz]
          have HN' := HN.out
          have HS' := HS.out
          rw [if_pos hk] at HN'
          rw [if_pos ⟨hk, hz⟩] at HS'
          have HN2 := Lib.hid HN'
          have HS2 := Lib.hid HS'
          clear HN HS HN' HS' hk hz
          go_wp2_with fail
          go_roundw
          case rel => exact ⟨j + 1, by omega, by go_num, by rw [HS2.out], by rw [HN2.out]; go_num, HF.out⟩
          case measure => (simp [intOf]) <;> omega
        · have e2 : ((n : Int) == 0) = false := by simpa using hz
          have HN' := HN.out
          have HS' := HS.out
          rw [if_pos hk] at HN'
          rw [if_neg (by simp [hz])] at HS'
          have HN2 := Lib.hid HN'
          have HS2 := Lib.hid HS'
          clear HN HS HN' HS' hk hz
          go_wp2_with fail
          go_roundw
          case rel => exact ⟨j + 1, by omega, by go_num, by rw [HS2.out], by rw [HN2.out]; go_num, HF.out⟩
          case measure => (simp [intOf]) <;> omega
      · have e : (t == k) = false := by simpa using hk
        have HN' := HN.out
        have HS' := HS.out
        rw [if_neg hk] at HN'
        rw [if_neg (by simp [hk])] at HS'
        have HN2 := Lib.hid HN'
        have HS2 := Lib.hid HS'
        clear HN HS HN' HS' hk
        go_wp2_with fail
        go_roundw
        case rel => exact ⟨j + 1, by omega, by go_num, by rw [HS2.out], by rw [HN2.out]; rfl, HF.out⟩
        case measure => (simp [intOf]) <;> omega
    · obtain rfl : j = l.length := by omega
      have hge : ¬ (l.length : Int) < l.length := by omega
      rw [List.take_length]
      clear hj hjl
      go_wp2_with fail
      go_ret2
      exact ⟨rfl, hF⟩
end
end Go.Proofs.YtfchbppfbepelaaGreat
