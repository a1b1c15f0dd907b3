/- ChapClient (printed by tools/gen_chapclient.py). -/
import Derived.Test.YtfchbppfbepelaaGreatChRow
import Derived.Test.YtfchbppfbepelaaGreatBkSent
import Derived.Test.YtfchbppfbepelaaGreatChap9
import Derived.Test.YtfchbppfbepelaaGreatAlive14
import Derived.OpenShut
import Derived.WideShapes
import Derived.Below
import Derived.Deep.DeepCutAuto
import Derived.Deep.CutBlock
namespace Go.Proofs.YtfchbppfbepelaaGreat
open Go.ChangeShapes Go.WideShapes Go.ChangeAt Go.RowKit Go.Deep
set_option linter.unusedVariables false
/-- what a round of ChapClient finds -/
structure CPs (w0 : World) (b g h : Nat) (n s : List UInt8) (st : CS) (kp : List (Bl (Int × Int × List UInt8))) (w : World) : Prop where
  bk : BkS w0.heap.size w b kp
  cl : Blk w g (cclS n s st) 246
  dc : Blk w h (dchS n s st) 83
  fr : Fr [] w0 w
  hg : w0.heap.size ≤ g
  hh : w0.heap.size ≤ h
section
variable {w0 w : World} {b g h : Nat} {n s : List UInt8} {st : CS} {kp : List (Bl (Int × Int × List UInt8))}
theorem CPs.fr0 (H : CPs w0 b g h n s st kp w) {w' : World} (hF : Fr [] w w') : CPs w0 b g h n s st kp w' :=
  ⟨H.bk.fr0 hF, hF.blk H.cl (by simp), hF.blk H.dc (by simp), H.fr.trans hF, H.hg, H.hh⟩
theorem CPs.gh (H : CPs w0 b g h n s st kp w) : g ≠ h := H.cl.neT H.dc (by decide)
/-- behind both Takes -/
def CCut (w0 : World) (b g h : Nat) (n s : List UInt8) (av bv : Value) (wx : World) : Prop :=
  ∃ st kp out A1 c1 A2 c2 base, av = .slice A1 (List.length out) c1 ∧ bv = .slice A2 (List.length out) c2 ∧ PkO base wx (.slice A1 out.length c1) out ∧ PkO base wx (.slice A2 out.length c2) out ∧ out.length ≤ 1 ∧ CPs w0 b g h n s st kp wx ∧
    (∀ u, u ∈ kp → ∀ q, Value.ownBlock (Bl.v u) = some q → q < base) ∧ w0.heap.size ≤ base
theorem CPs.step {st' : CS} (H : CPs w0 b g h n s st kp w) {w1 w2 : World} {av bv : Value} {out : List (Int × Int × List UInt8)} (hl : out.length ≤ 1) (h1 : PkO w.heap.size w1 av out) (c1 : Blk w1 g (cclS n s st') 246) (f1 : Fr [g] w w1)
    (h2 : PkO w1.heap.size w2 bv out) (c2 : Blk w2 h (dchS n s st') 83) (f2 : Fr [h] w1 w2) : CCut w0 b g h n s av bv w2 := by
  obtain ⟨A1, d1, rfl⟩ := rown_slice h1
  obtain ⟨A2, d2, rfl⟩ := rown_slice h2
  have hgh := H.gh
  have d1' := f1.blk H.dc (show h ∉ [g] by simp; exact fun e => hgh e.symm)
  have hlt := H.dc.lt
  refine ⟨st', kp, out, A1, d1, A2, d2, w.heap.size, rfl, rfl, h1.fr f2 (fun q hq => ?_), rown_base h2 f1.size, hl, ⟨?_, f2.blk c1 (by simp; exact hgh), c2, ?_, H.hg, H.hh⟩, H.bk.lt, H.fr.size⟩
  · have := own_new h1 q hq
    simp
    omega
  · have k1 := H.bk.fr f1 (fun q hq cur T hc => by
      simp at hq
      subst hq
      exact ⟨fun e => hc.neT H.cl (by rw [e]; decide) rfl, fun e => hc.neT H.cl (by rw [e]; decide) rfl, fun e => hc.neT H.cl (by rw [e]; decide) rfl, fun e => hc.neT H.cl (by rw [e]; decide) rfl, fun e => hc.neT H.cl (by rw [e]; decide) rfl⟩)
    exact k1.fr f2 (fun q hq cur T hc => by
      simp at hq
      subst hq
      exact ⟨fun e => hc.neT d1' (by rw [e]; decide) rfl, fun e => hc.neT d1' (by rw [e]; decide) rfl, fun e => hc.neT d1' (by rw [e]; decide) rfl, fun e => hc.neT d1' (by rw [e]; decide) rfl, fun e => hc.neT d1' (by rw [e]; decide) rfl⟩)
  · exact (H.fr.sub f1 (fun x hx => by simp at hx; subst hx; exact Or.inr H.hg)).sub f2 (fun x hx => by simp at hx; subst hx; exact Or.inr H.hh)
theorem CPs.sent {w' : World} {kp' : List (Bl (Int × Int × List UInt8))} (H : CPs w0 b g h n s st kp w) (hb : BkS w0.heap.size w' b kp') (hF : FrT w0.heap.size w w') : CPs w0 b g h n s st kp' w' :=
  ⟨hb, hF.blk H.cl (by decide) (by decide) (by decide), hF.blk H.dc (by decide) (by decide) (by decide), hF.fr H.fr (Nat.le_refl _), H.hg, H.hh⟩
end
def CLoop (w0 : World) (b g h : Nat) (n s : List UInt8) (wr : World) : Prop := ∃ st kp, CPs w0 b g h n s st kp wr
theorem cnewE0 {n s : List UInt8} (h : cnewE n s = 0) : n.length ≤ 60 ∧ s.length ≤ 60 := by
  unfold cnewE at h
  by_cases h1 : n.length ≤ 60 ∧ s.length ≤ 60
  · exact h1
  · rw [if_neg h1] at h; exact absurd h (by decide)
set_option maxRecDepth 100000 in
set_option maxHeartbeats 40000000 in
theorem chapClient_walk (w : World) (n : ByteArray) (hn : n.size ≤ 140737488351232) (s : ByteArray) (hs : s.size ≤ 140737488351232) (a : Option Addr) (len cap : Nat) (l : List HOp) (hR : RowsAt w a len cap 7 hopL HopOk l) :
    Calls Tryz.prog 4 #[.string n, .string s, .slice a len cap] w fun e w' => e = .returned (.bool true) ∧ Below w.heap.size w w' := by
  obtain ⟨n, rfl⟩ : ∃ l, n = B l := ⟨_, B_of n⟩
  obtain ⟨s, rfl⟩ : ∃ l, s = B l := ⟨_, B_of s⟩
  rw [B_size] at hn hs
  have AL := Lib.hid fun W => alive14 W
  have HR := Lib.hid hR
  have hlm : len ≤ maxLen := Nat.le_trans hR.2.1 hR.2.2.1
  unfold maxLen at hlm
  have SH := Lib.hid (short14 hR)
  have NB := Lib.hid fun (W : World) (h : cnewE n s ≠ 0) => cnew_bad (w := W) (by omega) (by omega) h
  have DB := Lib.hid fun (W : World) (h : cnewE n s ≠ 0) => dchnew_bad (w := W) (by omega) (by omega) h
  clear hR
  go_enter Tryz.func4, Tryz.ntmps4
  go_wp2_with fail
  refine SH.out.mono ?_
  rintro e w2 ⟨b0, rfl, hb0, hF2⟩
  clear SH
  cases b0 with
  | false =>
    clear hb0
    go_wp2_with fail
    refine (AL.out _).mono ?_
    rintro e w3 ⟨rfl, hF3⟩
    go_wp2_with fail
    go_ret
    exact ⟨rfl, (hF2.trans hF3).below (Nat.le_refl _) (by simp)⟩
  | true =>
    obtain ⟨hl200, hsz⟩ := hb0 rfl
    have HSZ := Lib.hid hsz
    clear hb0 hsz
    by_cases h300 : (300 : Int) < (n.length : Int) + s.length
    · go_wp2_with fail
      refine (AL.out _).mono ?_
      rintro e w3 ⟨rfl, hF3⟩
      go_wp2_with fail
      go_ret
      exact ⟨rfl, (hF2.trans hF3).below (Nat.le_refl _) (by simp)⟩
    · by_cases hE : cnewE n s = 0
      · have HC := Lib.hid (cnewE0 hE)
        have NW := Lib.hid fun (W : World) => cnew_ok (w := W) HC.out.1 HC.out.2
        have DW := Lib.hid fun (W : World) => dchnew_ok (w := W) HC.out.1 HC.out.2
        clear NB DB hE hn hs
        go_wp2_with fail
        refine (NW.out _).mono ?_
        rintro e w3 ⟨g, rfl, hg, hC, hF3⟩
        have H3 := Lib.hid (And.intro hg (And.intro hC hF3))
        clear hg hC hF3 NW
        go_wp2_with fail
        refine (DW.out _).mono ?_
        rintro e w4 ⟨h, rfl, hh, hD, hF4⟩
        have HPP : Hid (CLoop w w4.heap.size g h n s (w4.alloc (.cells #[.slice none 0 0, .slice none 0 0, .slice none 0 0, .slice none 0 0, .slice none 0 0, .slice none 0 0, .slice none 0 0, .slice none 0 0, .slice none 0 0, .slice none 0 0, .slice none 0 0, .slice none 0 0, .slice none 0 0, .slice none 0 0, .slice none 0 0, .slice none 0 0, .slice none 0 0, .slice none 0 0, .slice none 0 0, .slice none 0 0, .slice none 0 0, .slice none 0 0, .slice none 0 0, .slice none 0 0, .slice none 0 0, .slice none 0 0, .slice none 0 0, .slice none 0 0, .slice none 0 0, .slice none 0 0, .slice none 0 0, .slice none 0 0, .slice none 0 0, .slice none 0 0, .slice none 0 0, .slice none 0 0] 52 (0, 0)))) := Lib.hid (by
          obtain ⟨hg, hC, hF3⟩ := H3.out
          have z2 := hF2.size
          have z3 := hF3.size
          have z4 := hF4.size
          have hF : Fr [] w w4 := (hF2.trans hF3).trans hF4
          have hB := BkS.new w4
          obtain ⟨⟨Fb, ko, h1, h2, h3, h4, h5, h6⟩, h7, h8⟩ := hB
          have hC4 := hF4.blk hC (by simp)
          refine ⟨⟨false, 0, false, false⟩, [], ⟨⟨Fb, ko, h1, h2, h3, h4, h5, fun q hq => ?_⟩, by omega, by simp⟩, hC4.alloc _, hD.alloc _, hF.alloc _, by omega, by omega⟩
          exact Nat.le_trans (by omega) (h6 q hq))
        clear hh hD hF4 DW H3 hF2
        go_wp2_with (refine wpList_build1 rfl 52 #[] rfl #[.slice none 0 0, .slice none 0 0, .slice none 0 0, .slice none 0 0, .slice none 0 0, .slice none 0 0, .slice none 0 0, .slice none 0 0, .slice none 0 0, .slice none 0 0, .slice none 0 0, .slice none 0 0, .slice none 0 0, .slice none 0 0, .slice none 0 0, .slice none 0 0, .slice none 0 0, .slice none 0 0, .slice none 0 0, .slice none 0 0, .slice none 0 0, .slice none 0 0, .slice none 0 0, .slice none 0 0, .slice none 0 0, .slice none 0 0, .slice none 0 0, .slice none 0 0, .slice none 0 0, .slice none 0 0, .slice none 0 0, .slice none 0 0, .slice none 0 0, .slice none 0 0, .slice none 0 0, .slice none 0 0] (fun W => by kernel_rfl) ?_)
        go_loopw [12] (fun iv wr => ∃ j : Nat, j ≤ len ∧ iv = .int .i64 j ∧ CLoop w w4.heap.size g h n s wr) (fun iv _ => len - (intOf iv).toNat)
        case atStart => exact ⟨0, Nat.zero_le _, rfl, HPP.out⟩
        case round =>
          clear HPP
          obtain ⟨j, hj, rfl, st, kp, hPP⟩ := hrel
          have HP0 := Lib.hid hPP
          clear hPP
          by_cases hjl : j < len
          · obtain ⟨bb, off, ⟨kd, c, i, A, m, cp, D, v, gd⟩, rfl, hbb, hx, hV, hcell⟩ := HR.out.at_ j hjl
            have HX : Hid (∀ W, Fr [] w W → (fun W => (W.cell? ⟨bb, off + j * 7 + 1, none⟩ = some (.int .i64 c) ∧ W.cell? ⟨bb, off + j * 7 + 2, none⟩ = some (.int .i64 i) ∧ W.cell? ⟨bb, off + j * 7 + 3, none⟩ = some (.slice A m cp) ∧ W.cell? ⟨bb, off + j * 7 + 4, none⟩ = some (.string (B D))) ∧ Fr [] w W) W) := Lib.hid fun W hW => by
              have hl := hcell W hW
              exact ⟨⟨hl 1 _ rfl, hl 2 _ rfl, hl 3 _ rfl, hl 4 _ rfl⟩, hW⟩
            have HD : Hid (D.length ≤ 1000) := Lib.hid (HSZ.out j _ hx).1
            have HI : Hid (-9223372036854775808 ≤ i ∧ i ≤ 9223372036854775807) := Lib.hid hV.2.2.1
            clear hcell hx hbb hV
            go_wp2_with fail
            refine wp_region_held_drew (S := (fun W => (W.cell? ⟨bb, off + j * 7 + 1, none⟩ = some (.int .i64 c) ∧ W.cell? ⟨bb, off + j * 7 + 2, none⟩ = some (.int .i64 i) ∧ W.cell? ⟨bb, off + j * 7 + 3, none⟩ = some (.slice A m cp) ∧ W.cell? ⟨bb, off + j * 7 + 4, none⟩ = some (.string (B D))) ∧ Fr [] w W)) (by kernel_rfl) ?_ (fun hHeld => ?_)
            · (try dsimp only); exact HX.out _ HP0.out.fr.drew
            have HPd := Lib.hid (HP0.out.fr0 (Fr.refl [] wr).drew)
            obtain ⟨v0, hv⟩ : ∃ X, wr.drew = X := ⟨_, rfl⟩
            rw [hv] at hHeld HPd ⊢
            clear hv
            refine take_yes 0 62 rfl rfl (by kernel_rfl) (by kernel_rfl) (by kernel_rfl) (fun _ _ _ h => h) (by rfl) (by assumption) (v := ?_) ?_ ?_
            rotate_left
            · intro w hSw; (try dsimp only at hSw); go_simp; (try with_reducible rfl)
            try simp only [Act.put, List.setIfInBounds_toArray, List.set_cons_zero, List.set_cons_succ]
            refine take_yes 1 63 rfl rfl (by kernel_rfl) (by kernel_rfl) (by kernel_rfl) (fun _ _ _ h => h) (by rfl) (by assumption) (v := ?_) ?_ ?_
            rotate_left
            · intro w hSw; (try dsimp only at hSw); go_simp; (try with_reducible rfl)
            try simp only [Act.put, List.setIfInBounds_toArray, List.set_cons_zero, List.set_cons_succ]
            refine take_yes 2 64 rfl rfl (by kernel_rfl) (by kernel_rfl) (by kernel_rfl) (fun _ _ _ h => h) (by rfl) (by assumption) (v := ?_) ?_ ?_
            rotate_left
            · intro w hSw; (try dsimp only at hSw); go_simp; (try with_reducible rfl)
            try simp only [Act.put, List.setIfInBounds_toArray, List.set_cons_zero, List.set_cons_succ]
            refine take_yes 3 65 rfl rfl (by kernel_rfl) (by kernel_rfl) (by kernel_rfl) (fun _ _ _ h => h) (by rfl) (by assumption) (v := ?_) ?_ ?_
            rotate_left
            · intro w hSw; (try dsimp only at hSw); go_simp; (try with_reducible rfl)
            try simp only [Act.put, List.setIfInBounds_toArray, List.set_cons_zero, List.set_cons_succ]
            refine take_yes 4 66 rfl rfl (by kernel_rfl) (by kernel_rfl) (by kernel_rfl) (fun _ _ _ h => h) (by rfl) (by assumption) (v := ?_) ?_ ?_
            rotate_left
            · intro w hSw; (try dsimp only at hSw); go_simp; (try with_reducible rfl)
            try simp only [Act.put, List.setIfInBounds_toArray, List.set_cons_zero, List.set_cons_succ]
            refine take_yes 5 67 rfl rfl (by kernel_rfl) (by kernel_rfl) (by kernel_rfl) (fun _ _ _ h => h) (by rfl) (by assumption) (v := ?_) ?_ ?_
            rotate_left
            · intro w hSw; (try dsimp only at hSw); go_simp; (try with_reducible rfl)
            try simp only [Act.put, List.setIfInBounds_toArray, List.set_cons_zero, List.set_cons_succ]
            refine take_yes 7 69 rfl rfl (by kernel_rfl) (by kernel_rfl) (by kernel_rfl) (fun _ _ _ h => h) (by rfl) (by assumption) (v := ?_) ?_ ?_
            rotate_left
            · intro w hSw; (try dsimp only at hSw); go_simp; (try with_reducible rfl)
            try simp only [Act.put, List.setIfInBounds_toArray, List.set_cons_zero, List.set_cons_succ]
            refine take_yes 8 70 rfl rfl (by kernel_rfl) (by kernel_rfl) (by kernel_rfl) (fun _ _ _ h => h) (by rfl) (by assumption) (v := ?_) ?_ ?_
            rotate_left
            · intro w hSw; (try dsimp only at hSw); go_simp; (try with_reducible rfl)
            try simp only [Act.put, List.setIfInBounds_toArray, List.set_cons_zero, List.set_cons_succ]
            refine take_yes 9 71 rfl rfl (by kernel_rfl) (by kernel_rfl) (by kernel_rfl) (fun _ _ _ h => h) (by rfl) (by assumption) (v := ?_) ?_ ?_
            rotate_left
            · intro w hSw; (try dsimp only at hSw); go_simp; (try with_reducible rfl)
            try simp only [Act.put, List.setIfInBounds_toArray, List.set_cons_zero, List.set_cons_succ]
            refine take_yes 10 72 rfl rfl (by kernel_rfl) (by kernel_rfl) (by kernel_rfl) (fun _ _ _ h => h) (by rfl) (by assumption) (v := ?_) ?_ ?_
            rotate_left
            · intro w hSw; (try dsimp only at hSw); go_simp; (try with_reducible rfl)
            try simp only [Act.put, List.setIfInBounds_toArray, List.set_cons_zero, List.set_cons_succ]
            refine take_yes 11 73 rfl rfl (by kernel_rfl) (by kernel_rfl) (by kernel_rfl) (fun _ _ _ h => h) (by rfl) (by assumption) (v := ?_) ?_ ?_
            rotate_left
            · intro w hSw; (try dsimp only at hSw); go_simp; (try with_reducible rfl)
            try simp only [Act.put, List.setIfInBounds_toArray, List.set_cons_zero, List.set_cons_succ]
            refine take_yes 12 74 rfl rfl (by kernel_rfl) (by kernel_rfl) (by kernel_rfl) (fun _ _ _ h => h) (by rfl) (by assumption) (v := ?_) ?_ ?_
            rotate_left
            · intro w hSw; (try dsimp only at hSw); go_simp; (try with_reducible rfl)
            try simp only [Act.put, List.setIfInBounds_toArray, List.set_cons_zero, List.set_cons_succ]
            refine wpAnyH_ready (rs := [6]) (by kernel_rfl) (by simp) ?_
            refine AllReadyH.cons (o := _) rfl (fun K hK => ?_) AllReadyH.nil
            go_simp
            refine (cTake (st := st) c i A m cp D HD.out HC.out.1 HC.out.2 HPd.out.cl).mono ?_
            rintro e v1 ⟨av, rfl, hO1, hC1, hG1⟩
            (try go_wp2_with fail)
            have HQ := Lib.hid (And.intro hO1 (And.intro hC1 hG1))
            have hFv : Fr [] w v1 := HPd.out.fr.sub hG1 (fun x hx => by simp at hx; subst hx; exact Or.inr HPd.out.hg)
            clear hO1 hC1 hG1
            refine hK.out _ _ ?_ (fun hHeld1 => ?_)
            · (try dsimp only); exact HX.out _ hFv
            clear hK K hHeld
            try simp only [Act.put, List.setIfInBounds_toArray, List.set_cons_zero, List.set_cons_succ]
            refine wpAnyH_ready (rs := [13]) (by kernel_rfl) (by simp) ?_
            refine AllReadyH.cons (o := _) rfl (fun K hK => ?_) AllReadyH.nil
            go_simp
            refine (dchTake (st := st) c i HI.out.1 HI.out.2 A m cp D HD.out HC.out.1 HC.out.2 (HQ.out.2.2.blk HPd.out.dc (by simp; exact fun e => HPd.out.gh e.symm))).mono ?_
            rintro e v2 ⟨bv, rfl, hO2, hC2, hG2⟩
            (try go_wp2_with fail)
            have HE := Lib.hid (HPd.out.step (st' := st.take c i D) (CS.out_le _ _ _ _ _) HQ.out.1 HQ.out.2.1 HQ.out.2.2 hO2 hC2 hG2)
            have hFv2 : Fr [] w v2 := hFv.sub hG2 (fun x hx => by simp at hx; subst hx; exact Or.inr HPd.out.hh)
            clear hO2 hC2 hG2
            refine hK.out _ _ ?_ (fun hHeld2 => ?_)
            · (try dsimp only); exact HX.out _ hFv2
            clear hK K hHeld1 hFv
            try simp only [Act.put, List.setIfInBounds_toArray, List.set_cons_zero, List.set_cons_succ]
            refine take_yes 14 13 rfl rfl (by kernel_rfl) (by kernel_rfl) (by kernel_rfl) (fun _ _ _ h => h) (by rfl) (by assumption) (v := ?_) ?_ ?_
            rotate_left
            · intro w hSw; (try dsimp only at hSw); go_simp; (try with_reducible rfl)
            try simp only [Act.put, List.setIfInBounds_toArray, List.set_cons_zero, List.set_cons_succ]
            refine take_yes 15 14 rfl rfl (by kernel_rfl) (by kernel_rfl) (by kernel_rfl) (fun _ _ _ h => h) (by rfl) (by assumption) (v := ?_) ?_ ?_
            rotate_left
            · intro w hSw; (try dsimp only at hSw); go_simp; (try with_reducible rfl)
            try simp only [Act.put, List.setIfInBounds_toArray, List.set_cons_zero, List.set_cons_succ]
            refine wpAnyH_done (by kernel_rfl) ?_ _
            clear hHeld2 hFv2 HQ HPd
            obtain ⟨st, kp, out, A1, c1, A2, c2, base, rfl, rfl, hO1, hO2, hol, hP, hlt, hb0⟩ := HE.out
            have SN := Lib.hid (hP.bk.sent hP.fr.size A1 c1 out (rown_base hO1 (Nat.zero_le _)) (by omega) (fun u hu q hq e => by have := hlt u hu q hq; have := own_new hO1 q e; omega) (fun q hq => Nat.le_trans hb0 (own_new hO1 q hq)))
            have HP := Lib.hid hP
            have HO := Lib.hid (And.intro hO1 (And.intro hO2 hol))
            clear hO1 hO2 hol hP hlt hb0 HE HP0
            go_wp2_with fail
            refine SN.out.mono ?_
            rintro e w5 ⟨rfl, ⟨kp', hK5, _⟩, hT5⟩
            have HP5 := Lib.hid (HP.out.sent hK5 hT5)
            have HO5 := Lib.hid (And.intro (hT5.row HO.out.1 (by decide) (by decide) (by decide)) (And.intro (hT5.row HO.out.2.1 (by decide) (by decide) (by decide)) HO.out.2.2))
            clear hK5 hT5 HP HO SN
            obtain ⟨sd, id, x, y⟩ := st
            have DN := Lib.hid (cdone_any HP5.out.cl)
            go_wp2_with fail
            refine DN.out.mono ?_
            rintro e w6 ⟨rfl, hF6⟩
            have SA := Lib.hid (pk_same (w := w6) out A1 A2 c1 c2 ((RAt.of_own pkF_len (rown_base (rown_frS HO5.out.1 hF6 (fun _ _ => List.not_mem_nil)) (Nat.zero_le _)))) ((RAt.of_own pkF_len (rown_base (rown_frS HO5.out.2.1 hF6 (fun _ _ => List.not_mem_nil)) (Nat.zero_le _)))) (by have := HO5.out.2.2; omega))
            have HP6 := Lib.hid (HP5.out.fr0 hF6)
            clear hF6 DN HP5 HO5
            go_wp2_with fail
            refine SA.out.mono ?_
            rintro e w7 ⟨rfl, hF7⟩
            have HP7 := Lib.hid (HP6.out.fr0 hF7)
            have c2' : w7.cell? ⟨h, 2, none⟩ = some (.bool x) := HP7.out.dc.c 2 _ rfl
            have c3' : w7.cell? ⟨h, 3, none⟩ = some (.bool y) := HP7.out.dc.c 3 _ rfl
            have hyy : (x != x) = false := by simp
            have hzz : (y != y) = false := by simp
            clear hF7 SA HP6
            go_wp2_with fail
            go_roundw
            case rel => exact ⟨j + 1, by omega, by go_num, _, _, HP7.out⟩
            case measure => (simp [intOf]) <;> omega
          · obtain rfl : j = len := by omega
            have AP := Lib.hid fun (W : World) (hW : Fr [] wr W) => ((HP0.out.fr0 hW).bk.apart (HP0.out.fr0 hW).fr)
            go_wp2_with fail
            refine (AL.out _).mono ?_
            rintro e w5 ⟨rfl, hF5⟩
            have AP2 := Lib.hid (AP.out _ hF5)
            clear hF5 AP
            go_wp2_with fail
            refine AP2.out.mono ?_
            rintro e w6 ⟨rfl, hF6⟩
            have HF6 := Lib.hid hF6
            clear hF6 AP2
            go_wp2_with fail
            go_ret
            exact ⟨rfl, HF6.out.below (Nat.le_refl _) (by simp)⟩
      · have NB1 := Lib.hid fun (W : World) => NB.out W hE
        have DB1 := Lib.hid fun (W : World) => DB.out W hE
        clear NB DB hE
        go_wp2_with fail
        refine (NB1.out _).mono ?_
        rintro e w3 ⟨rfl, hF3⟩
        go_wp2_with fail
        refine (DB1.out _).mono ?_
        rintro e w4 ⟨rfl, hF4⟩
        go_wp2_with fail
        refine (AL.out _).mono ?_
        rintro e w5 ⟨rfl, hF5⟩
        go_wp2_with fail
        go_ret
        exact ⟨rfl, (((hF2.trans hF3).trans hF4).trans hF5).below (Nat.le_refl _) (by simp)⟩
end Go.Proofs.YtfchbppfbepelaaGreat
