/- ChapServer (printed by tools/gen_chapserver.py). -/
import Derived.Test.YtfchbppfbepelaaGreatChRow
import Derived.Test.YtfchbppfbepelaaGreatBkSent
import Derived.Test.YtfchbppfbepelaaGreatChS3
import Derived.Test.YtfchbppfbepelaaGreatAlive14
import Derived.OpenShut
import Derived.WideShapes
import Derived.Below
import Derived.Deep.DeepCutAuto
import Derived.Deep.CutBlock
namespace Go.Proofs.YtfchbppfbepelaaGreat
open Go.ChangeShapes Go.WideShapes Go.ChangeAt Go.RowKit Go.Deep
set_option linter.unusedVariables false
/-- what a round of ChapServer finds -/
structure SPs (w0 : World) (b g h : Nat) (n : List UInt8) (r wt : Int) (st : SS) (kp : List (Bl (Int × Int × List UInt8))) (w : World) : Prop where
  ok : st.ok n wt
  bk : BkS w0.heap.size w b kp
  sv : SrvP w0.heap.size w g n r wt st
  dc : Blk w h (dsvS n r wt st) 101
  fr : Fr [] w0 w
  hg : w0.heap.size ≤ g
  hh : w0.heap.size ≤ h
section
variable {w0 w : World} {b g h : Nat} {n : List UInt8} {r wt : Int} {st : SS} {kp : List (Bl (Int × Int × List UInt8))}
theorem SPs.fr0 (H : SPs w0 b g h n r wt st kp w) {w' : World} (hF : Fr [] w w') : SPs w0 b g h n r wt st kp w' :=
  ⟨H.ok, H.bk.fr0 hF, H.sv.fr0 hF, hF.blk H.dc (by simp), H.fr.trans hF, H.hg, H.hh⟩
theorem SPs.gh (H : SPs w0 b g h n r wt st kp w) : g ≠ h := by
  obtain ⟨cur, hc⟩ := H.sv.blk
  exact hc.neT H.dc (by decide)
/-- behind the switch -/
def SCut (w0 : World) (b g h : Nat) (n : List UInt8) (r wt : Int) (av bv : Value) (wx : World) : Prop :=
  ∃ st kp out A1 c1 A2 c2 base, av = .slice A1 (List.length out) c1 ∧ bv = .slice A2 (List.length out) c2 ∧ PkO base wx (.slice A1 out.length c1) out ∧ PkO base wx (.slice A2 out.length c2) out ∧ out.length ≤ 1 ∧ SPs w0 b g h n r wt st kp wx ∧
    (∀ u, u ∈ kp → ∀ q, Value.ownBlock (Bl.v u) = some q → q < base) ∧ w0.heap.size ≤ base
theorem SPs.step {st' : SS} (H : SPs w0 b g h n r wt st kp w) (ok' : st'.ok n wt) {w1 w2 : World} {av bv : Value} {out : List (Int × Int × List UInt8)} (hl : out.length ≤ 1) (h1 : PkO w.heap.size w1 av out) (c1 : SrvP w0.heap.size w1 g n r wt st') (f1 : Fr [g] w w1)
    (h2 : PkO w1.heap.size w2 bv out) (c2 : Blk w2 h (dsvS n r wt st') 101) (f2 : Fr [h] w1 w2) : SCut w0 b g h n r wt av bv w2 := by
  obtain ⟨A1, d1, rfl⟩ := rown_slice h1
  obtain ⟨A2, d2, rfl⟩ := rown_slice h2
  have hgh := H.gh
  obtain ⟨gc, hgc⟩ := H.sv.blk
  have d1' := f1.blk H.dc (show h ∉ [g] by simp; exact fun e => hgh e.symm)
  have hlt := H.dc.lt
  refine ⟨st', kp, out, A1, d1, A2, d2, w.heap.size, rfl, rfl, h1.fr f2 (fun q hq => ?_), rown_base h2 f1.size, hl, ⟨ok', ?_, c1.fr f2 (by simp; exact hgh) (fun q hq cur T hc => ?_), c2, ?_, H.hg, H.hh⟩, H.bk.lt, H.fr.size⟩
  · have := own_new h1 q hq
    simp
    omega
  · have k1 := H.bk.fr f1 (fun q hq cur T hc => by
      simp at hq
      subst hq
      exact ⟨fun e => hc.neT hgc (by rw [e]; decide) rfl, fun e => hc.neT hgc (by rw [e]; decide) rfl, fun e => hc.neT hgc (by rw [e]; decide) rfl, fun e => hc.neT hgc (by rw [e]; decide) rfl, fun e => hc.neT hgc (by rw [e]; decide) rfl⟩)
    exact k1.fr f2 (fun q hq cur T hc => by
      simp at hq
      subst hq
      exact ⟨fun e => hc.neT d1' (by rw [e]; decide) rfl, fun e => hc.neT d1' (by rw [e]; decide) rfl, fun e => hc.neT d1' (by rw [e]; decide) rfl, fun e => hc.neT d1' (by rw [e]; decide) rfl, fun e => hc.neT d1' (by rw [e]; decide) rfl⟩)
  · simp at hq
    subst hq
    exact fun e => hc.neT d1' (by rw [e]; decide) rfl
  · exact (H.fr.sub f1 (fun x hx => by simp at hx; subst hx; exact Or.inr H.hg)).sub f2 (fun x hx => by simp at hx; subst hx; exact Or.inr H.hh)
theorem SPs.sent {w' : World} {kp' : List (Bl (Int × Int × List UInt8))} (H : SPs w0 b g h n r wt st kp w) (hb : BkS w0.heap.size w' b kp') (hF : FrT w0.heap.size w w') : SPs w0 b g h n r wt st kp' w' := by
  refine ⟨H.ok, hb, ?_, hF.blk H.dc (by decide) (by decide) (by decide), hF.fr H.fr (Nat.le_refl _), H.hg, H.hh⟩
  obtain ⟨A, sl, sc, hB, h1⟩ := H.sv
  exact ⟨A, sl, sc, hF.blk hB (by decide) (by decide) (by decide), h1.imp id fun ⟨hj, q, e1, e2, e3, e4, hQ⟩ => ⟨hj, q, e1, e2, e3, e4, hF.blk hQ (by decide) (by decide) (by decide)⟩⟩
end
def SLoop (w0 : World) (b g h : Nat) (n : List UInt8) (r wt : Int) (wr : World) : Prop := ∃ st kp, SPs w0 b g h n r wt st kp wr
theorem snewE0 {n : List UInt8} {r wt : Int} (h : snewE n r wt = 0) : n.length ≤ 60 ∧ 0 ≤ r ∧ r ≤ 10 ∧ 1 ≤ wt ∧ wt ≤ 100 := by
  unfold snewE at h
  by_cases h1 : 60 < n.length
  · rw [if_pos h1] at h; exact absurd h (by decide)
  · rw [if_neg h1] at h
    by_cases h2 : 0 ≤ r ∧ r ≤ 10 ∧ 1 ≤ wt ∧ wt ≤ 100
    · exact ⟨by omega, h2⟩
    · rw [if_neg h2] at h; exact absurd h (by decide)
theorem str_ne_self (x : List UInt8) : (B x != B x) = false := by
  have : (B x == B x) = true := by
    show ((B x).data == (B x).data) = true
    rw [beq_iff_eq]
  unfold bne
  rw [this]
  rfl
set_option maxRecDepth 100000 in
set_option maxHeartbeats 40000000 in
theorem chapServer_walk (w : World) (n : ByteArray) (hn : n.size ≤ 140737488351232) (r : Int) (r0 : -9223372036854775808 ≤ r) (r1 : r ≤ 9223372036854775807) (wt : Int) (w0 : -9223372036854775808 ≤ wt) (w1 : wt ≤ 9223372036854775807) (a : Option Addr) (len cap : Nat) (l : List HOp) (hR : RowsAt w a len cap 7 hopL HopOk l) :
    Calls Tryz.prog 5 #[.string n, .int .i64 r, .int .i64 wt, .slice a len cap] w fun e w' => e = .returned (.bool true) ∧ Below w.heap.size w w' := by
  obtain ⟨n, rfl⟩ : ∃ l, n = B l := ⟨_, B_of n⟩
  rw [B_size] at hn
  have AL := Lib.hid fun W => alive14 W
  have HR := Lib.hid hR
  have hlm : len ≤ maxLen := Nat.le_trans hR.2.1 hR.2.2.1
  unfold maxLen at hlm
  have SH := Lib.hid (short14 hR)
  have NB := Lib.hid fun (W : World) (h : snewE n r wt ≠ 0) => snew_err (w := W) (by omega) h
  have DB := Lib.hid fun (W : World) (h : snewE n r wt ≠ 0) => dsNew_err (w := W) (by omega) h
  clear hR
  go_enter Tryz.func5, Tryz.ntmps5
  go_wp2_with fail
  refine SH.out.mono ?_
  rintro e w2 ⟨b0, rfl, hb0, hF2⟩
  clear SH
  cases b0 with
  | false =>
    clear hb0
    go_wp2_with fail
    refine (AL.out _).mono ?_
    rintro e w3 ⟨rfl, hF3⟩
    go_wp2_with fail
    go_ret
    exact ⟨rfl, (hF2.trans hF3).below (Nat.le_refl _) (by simp)⟩
  | true =>
    obtain ⟨hl200, hsz⟩ := hb0 rfl
    have HSZ := Lib.hid hsz
    clear hb0 hsz
    by_cases h300 : (300 : Int) < (n.length : Int)
    · go_wp2_with fail
      refine (AL.out _).mono ?_
      rintro e w3 ⟨rfl, hF3⟩
      go_wp2_with fail
      go_ret
      exact ⟨rfl, (hF2.trans hF3).below (Nat.le_refl _) (by simp)⟩
    · by_cases hE : snewE n r wt = 0
      · have HC := Lib.hid (snewE0 hE)
        have NW := Lib.hid fun (W : World) => snew_ok (w := W) HC.out.1 HC.out.2.1 HC.out.2.2.1 HC.out.2.2.2.1 HC.out.2.2.2.2
        have DW := Lib.hid fun (W : World) => dsNew_ok (w := W) HC.out.1 HC.out.2.1 HC.out.2.2.1 HC.out.2.2.2.1 HC.out.2.2.2.2
        clear NB DB hE hn r0 r1 w0 w1
        go_wp2_with fail
        refine (NW.out _).mono ?_
        rintro e w3 ⟨g, rfl, hg, hC, hF3⟩
        have H3 := Lib.hid (And.intro hg (And.intro hC hF3))
        clear hg hC hF3 NW
        go_wp2_with fail
        refine (DW.out _).mono ?_
        rintro e w4 ⟨h, rfl, hh, hD, hF4⟩
        have HPP : Hid (SLoop w w4.heap.size g h n r wt (w4.alloc (.cells #[.slice none 0 0, .slice none 0 0, .slice none 0 0, .slice none 0 0, .slice none 0 0, .slice none 0 0, .slice none 0 0, .slice none 0 0, .slice none 0 0, .slice none 0 0, .slice none 0 0, .slice none 0 0, .slice none 0 0, .slice none 0 0, .slice none 0 0, .slice none 0 0, .slice none 0 0, .slice none 0 0, .slice none 0 0, .slice none 0 0, .slice none 0 0, .slice none 0 0, .slice none 0 0, .slice none 0 0, .slice none 0 0, .slice none 0 0, .slice none 0 0, .slice none 0 0, .slice none 0 0, .slice none 0 0, .slice none 0 0, .slice none 0 0, .slice none 0 0, .slice none 0 0, .slice none 0 0, .slice none 0 0] 52 (0, 0)))) := Lib.hid (by
          obtain ⟨hg, hC, hF3⟩ := H3.out
          have z2 := hF2.size
          have z3 := hF3.size
          have z4 := hF4.size
          have hF : Fr [] w w4 := (hF2.trans hF3).trans hF4
          have hB := BkS.new w4
          obtain ⟨⟨Fb, ko, h1, h2, h3, h4, h5, h6⟩, h7, h8⟩ := hB
          have hC4 := hF4.blk hC (by simp)
          refine ⟨⟨0, 0, 0, [], false, false, false, false, false⟩, [], ⟨by decide, by decide, by decide, by decide, by decide, by decide, (fun h => by cases h), (fun h => by cases h)⟩, ⟨⟨Fb, ko, h1, h2, h3, h4, h5, fun q hq => ?_⟩, by omega, by simp⟩, ⟨none, 0, 0, hC4.alloc _, Or.inl ⟨rfl, rfl, rfl, rfl⟩⟩, hD.alloc _, hF.alloc _, by omega, by omega⟩
          exact Nat.le_trans (by omega) (h6 q hq))
        clear hh hD hF4 DW H3 hF2
        go_wp2_with (refine wpList_build1 rfl 52 #[] rfl #[.slice none 0 0, .slice none 0 0, .slice none 0 0, .slice none 0 0, .slice none 0 0, .slice none 0 0, .slice none 0 0, .slice none 0 0, .slice none 0 0, .slice none 0 0, .slice none 0 0, .slice none 0 0, .slice none 0 0, .slice none 0 0, .slice none 0 0, .slice none 0 0, .slice none 0 0, .slice none 0 0, .slice none 0 0, .slice none 0 0, .slice none 0 0, .slice none 0 0, .slice none 0 0, .slice none 0 0, .slice none 0 0, .slice none 0 0, .slice none 0 0, .slice none 0 0, .slice none 0 0, .slice none 0 0, .slice none 0 0, .slice none 0 0, .slice none 0 0, .slice none 0 0, .slice none 0 0, .slice none 0 0] (fun W => by kernel_rfl) ?_)
        go_loopw [14] (fun iv wr => ∃ j : Nat, j ≤ len ∧ iv = .int .i64 j ∧ SLoop w w4.heap.size g h n r wt wr) (fun iv _ => len - (intOf iv).toNat)
        case atStart => exact ⟨0, Nat.zero_le _, rfl, HPP.out⟩
        case round =>
          clear HPP
          obtain ⟨j, hj, rfl, st, kp, hPP⟩ := hrel
          have HP0 := Lib.hid hPP
          clear hPP
          by_cases hjl : j < len
          · obtain ⟨bb, off, ⟨kd, c, i, A, m, cp, D, V, gd⟩, rfl, hbb, hx, hV, hcell⟩ := HR.out.at_ j hjl
            have hl := hcell wr HP0.out.fr
            have HD : Hid (D.length ≤ 1000) := Lib.hid (HSZ.out j _ hx).1
            have HV : Hid (V.length ≤ 300) := Lib.hid (HSZ.out j _ hx).2
            obtain ⟨y0, y1, y2, y3, y4, y5, y6⟩ : wr.cell? ⟨bb, off + j * 7, none⟩ = some (.int .i64 kd) ∧ wr.cell? ⟨bb, off + j * 7 + 1, none⟩ = some (.int .i64 c) ∧ wr.cell? ⟨bb, off + j * 7 + 2, none⟩ = some (.int .i64 i) ∧ wr.cell? ⟨bb, off + j * 7 + 3, none⟩ = some (.slice A m cp) ∧ wr.cell? ⟨bb, off + j * 7 + 4, none⟩ = some (.string (B D)) ∧ wr.cell? ⟨bb, off + j * 7 + 5, none⟩ = some (.string (B V)) ∧ wr.cell? ⟨bb, off + j * 7 + 6, none⟩ = some (.bool gd) := ⟨hl 0 _ rfl, hl 1 _ rfl, hl 2 _ rfl, hl 3 _ rfl, hl 4 _ rfl, hl 5 _ rfl, hl 6 _ rfl⟩
            have hNO := Blk.new wr #[.int .i64 kd, .int .i64 c, .int .i64 i, .slice A m cp, .string (B D), .string (B V), .bool gd] 81
            have hFO := (Fr.refl [] wr).alloc (.cells #[.int .i64 kd, .int .i64 c, .int .i64 i, .slice A m cp, .string (B D), .string (B V), .bool gd] 81 (0, 0))
            obtain ⟨nO, hnO⟩ : ∃ n, wr.heap.size = n := ⟨_, rfl⟩
            obtain ⟨W3, hW3⟩ : ∃ X9, wr.alloc (.cells #[.int .i64 kd, .int .i64 c, .int .i64 i, .slice A m cp, .string (B D), .string (B V), .bool gd] 81 (0, 0)) = X9 := ⟨_, rfl⟩
            rw [hnO] at hNO
            rw [hW3] at hNO hFO
            have z0 := hNO.c 0 _ rfl
            (try simp only at z0)
            have HNO := Lib.hid hNO
            have HP3 := Lib.hid (HP0.out.fr0 hFO)
            have HX : Hid (∀ W, Blk W nO #[.int .i64 kd, .int .i64 c, .int .i64 i, .slice A m cp, .string (B D), .string (B V), .bool gd] 81 → (fun W => (W.cell? ⟨nO, 0, none⟩ = some (.int .i64 kd) ∧ W.cell? ⟨nO, 1, none⟩ = some (.int .i64 c) ∧ W.cell? ⟨nO, 2, none⟩ = some (.int .i64 i) ∧ W.cell? ⟨nO, 3, none⟩ = some (.slice A m cp) ∧ W.cell? ⟨nO, 4, none⟩ = some (.string (B D)) ∧ W.cell? ⟨nO, 5, none⟩ = some (.string (B V)) ∧ W.cell? ⟨nO, 6, none⟩ = some (.bool gd)) ∧ Blk W nO #[.int .i64 kd, .int .i64 c, .int .i64 i, .slice A m cp, .string (B D), .string (B V), .bool gd] 81) W) := Lib.hid fun W hW => ⟨⟨hW.c 0 _ rfl, hW.c 1 _ rfl, hW.c 2 _ rfl, hW.c 3 _ rfl, hW.c 4 _ rfl, hW.c 5 _ rfl, hW.c 6 _ rfl⟩, hW⟩
            clear hcell hx hbb hl hV hNO hFO HP0
            go_upto_block 2 with fail
            clear hnO hW3
            go_cut [16, 17] (fun av bv wx => SCut w w4.heap.size g h n r wt av bv wx)
            case first =>
              clear y0 y1 y2 y3 y4 y5 y6
              by_cases hk1 : kd = 1
              · have hd1 : (kd == 1) = true := by simpa using hk1
                clear hk1
                go_wp2_with fail
                clear z0
                refine wp_region_held_drew (S := (fun W => (W.cell? ⟨nO, 0, none⟩ = some (.int .i64 kd) ∧ W.cell? ⟨nO, 1, none⟩ = some (.int .i64 c) ∧ W.cell? ⟨nO, 2, none⟩ = some (.int .i64 i) ∧ W.cell? ⟨nO, 3, none⟩ = some (.slice A m cp) ∧ W.cell? ⟨nO, 4, none⟩ = some (.string (B D)) ∧ W.cell? ⟨nO, 5, none⟩ = some (.string (B V)) ∧ W.cell? ⟨nO, 6, none⟩ = some (.bool gd)) ∧ Blk W nO #[.int .i64 kd, .int .i64 c, .int .i64 i, .slice A m cp, .string (B D), .string (B V), .bool gd] 81)) (by kernel_rfl) ?_ (fun hHeld => ?_)
                · (try dsimp only); exact HX.out _ HNO.out.drew
                have HPd := Lib.hid (HP3.out.fr0 (Fr.refl [] W3).drew)
                have HNd := Lib.hid HNO.out.drew
                obtain ⟨v0, hv⟩ : ∃ X, W3.drew = X := ⟨_, rfl⟩
                rw [hv] at hHeld HPd HNd ⊢
                clear hv
                refine take_yes 0 121 rfl rfl (by kernel_rfl) (by kernel_rfl) (by kernel_rfl) (fun _ _ _ h => h) (by rfl) (by assumption) (v := ?_) ?_ ?_
                rotate_left
                · intro w hSw; (try dsimp only at hSw); go_simp; (try with_reducible rfl)
                try simp only [Act.put, List.setIfInBounds_toArray, List.set_cons_zero, List.set_cons_succ]
                refine take_yes 1 122 rfl rfl (by kernel_rfl) (by kernel_rfl) (by kernel_rfl) (fun _ _ _ h => h) (by rfl) (by assumption) (v := ?_) ?_ ?_
                rotate_left
                · intro w hSw; (try dsimp only at hSw); go_simp; (try with_reducible rfl)
                try simp only [Act.put, List.setIfInBounds_toArray, List.set_cons_zero, List.set_cons_succ]
                refine take_yes 2 123 rfl rfl (by kernel_rfl) (by kernel_rfl) (by kernel_rfl) (fun _ _ _ h => h) (by rfl) (by assumption) (v := ?_) ?_ ?_
                rotate_left
                · intro w hSw; (try dsimp only at hSw); go_simp; (try with_reducible rfl)
                try simp only [Act.put, List.setIfInBounds_toArray, List.set_cons_zero, List.set_cons_succ]
                refine take_yes 4 125 rfl rfl (by kernel_rfl) (by kernel_rfl) (by kernel_rfl) (fun _ _ _ h => h) (by rfl) (by assumption) (v := ?_) ?_ ?_
                rotate_left
                · intro w hSw; (try dsimp only at hSw); go_simp; (try with_reducible rfl)
                try simp only [Act.put, List.setIfInBounds_toArray, List.set_cons_zero, List.set_cons_succ]
                refine take_yes 5 126 rfl rfl (by kernel_rfl) (by kernel_rfl) (by kernel_rfl) (fun _ _ _ h => h) (by rfl) (by assumption) (v := ?_) ?_ ?_
                rotate_left
                · intro w hSw; (try dsimp only at hSw); go_simp; (try with_reducible rfl)
                try simp only [Act.put, List.setIfInBounds_toArray, List.set_cons_zero, List.set_cons_succ]
                refine take_yes 6 127 rfl rfl (by kernel_rfl) (by kernel_rfl) (by kernel_rfl) (fun _ _ _ h => h) (by rfl) (by assumption) (v := ?_) ?_ ?_
                rotate_left
                · intro w hSw; (try dsimp only at hSw); go_simp; (try with_reducible rfl)
                try simp only [Act.put, List.setIfInBounds_toArray, List.set_cons_zero, List.set_cons_succ]
                refine wpAnyH_ready (rs := [3]) (by kernel_rfl) (by simp) ?_
                refine AllReadyH.cons (o := _) rfl (fun K hK => ?_) AllReadyH.nil
                go_simp
                refine (uSStart HC.out.1 HPd.out.ok HC.out.2.2.2.1 V HV.out HPd.out.sv HPd.out.fr.size).mono ?_
                rintro e v1 ⟨av, rfl, hO1, hC1, hG1⟩
                (try go_wp2_with fail)
                have HQ := Lib.hid (And.intro hO1 (And.intro hC1 hG1))
                have HN1 := Lib.hid (hG1.blk HNd.out (by simp; intro e; subst e; obtain ⟨cur, hc⟩ := HPd.out.sv.blk; exact HNd.out.neT hc (by decide) rfl))
                have HD1 := Lib.hid (hG1.blk HPd.out.dc (by simp; exact fun e => HPd.out.gh e.symm))
                clear hO1 hC1 hG1
                refine hK.out _ _ ?_ (fun hHeld1 => ?_)
                · (try dsimp only); exact HX.out _ HN1.out
                clear hK K hHeld
                try simp only [Act.put, List.setIfInBounds_toArray, List.set_cons_zero, List.set_cons_succ]
                refine wpAnyH_ready (rs := [7]) (by kernel_rfl) (by simp) ?_
                refine AllReadyH.cons (o := _) rfl (fun K hK => ?_) AllReadyH.nil
                go_simp
                refine (dsStart HC.out.1 HPd.out.ok V HV.out HD1.out).mono ?_
                rintro e v2 ⟨bv, rfl, hO2, hC2, hG2⟩
                (try go_wp2_with fail)
                have HN2 := Lib.hid (hG2.blk HN1.out (by simp; intro e; subst e; exact HNd.out.neT HPd.out.dc (by decide) rfl))
                have HE := Lib.hid (HPd.out.step (HPd.out.ok.start HC.out.2.2.2.1 HC.out.1 V) (SS.startO_le _ _ _) HQ.out.1 HQ.out.2.1 HQ.out.2.2 hO2 hC2 hG2)
                clear hO2 hC2 hG2
                refine hK.out _ _ ?_ (fun hHeld2 => ?_)
                · (try dsimp only); exact HX.out _ HN2.out
                clear hK K hHeld1
                try simp only [Act.put, List.setIfInBounds_toArray, List.set_cons_zero, List.set_cons_succ]
                refine take_yes 8 16 rfl rfl (by kernel_rfl) (by kernel_rfl) (by kernel_rfl) (fun _ _ _ h => h) (by rfl) (by assumption) (v := ?_) ?_ ?_
                rotate_left
                · intro w hSw; (try dsimp only at hSw); go_simp; (try with_reducible rfl)
                try simp only [Act.put, List.setIfInBounds_toArray, List.set_cons_zero, List.set_cons_succ]
                refine take_yes 9 17 rfl rfl (by kernel_rfl) (by kernel_rfl) (by kernel_rfl) (fun _ _ _ h => h) (by rfl) (by assumption) (v := ?_) ?_ ?_
                rotate_left
                · intro w hSw; (try dsimp only at hSw); go_simp; (try with_reducible rfl)
                try simp only [Act.put, List.setIfInBounds_toArray, List.set_cons_zero, List.set_cons_succ]
                refine wpAnyH_done (by kernel_rfl) ?_ _
                clear hHeld2
                go_wp2_with fail
                go_meet
                exact HE.out
              · have hd1 : (kd == 1) = false := by simpa using hk1
                by_cases hk2 : kd = 2
                · have hd2 : (kd == 2) = true := by simpa using hk2
                  have U1 := Lib.hid (uSTick HP3.out.ok HC.out.2.2.2.1 HP3.out.sv HP3.out.fr.size)
                  have U2 := Lib.hid fun (W : World) (hB : Blk W h (dsvS n r wt st) 101) => dsTick HC.out.1 HP3.out.ok hB
                  clear hk1 hk2 z0
                  go_wp2_with fail
                  refine U1.out.mono ?_
                  rintro e w5 ⟨v5, rfl, hO1, hC1, hG1⟩
                  have U3 := Lib.hid (U2.out w5 (hG1.blk HP3.out.dc (by simp; exact fun e => HP3.out.gh e.symm)))
                  have HG := Lib.hid (And.intro hO1 (And.intro hC1 hG1))
                  clear hO1 hC1 hG1 U1 U2
                  go_wp2_with fail
                  refine U3.out.mono ?_
                  rintro e w6 ⟨v6, rfl, hO2, hC2, hG2⟩
                  have HE := Lib.hid (HP3.out.step (HP3.out.ok.tick HC.out.2.2.2.1 HC.out.2.2.2.2 HC.out.2.2.1) (SS.tickO_le _ _ _ _) HG.out.1 HG.out.2.1 HG.out.2.2 hO2 hC2 hG2)
                  clear hO2 hC2 hG2 HG U3
                  go_wp2_with fail
                  go_meet
                  exact HE.out
                · have hd2 : (kd == 2) = false := by simpa using hk2
                  by_cases hk4 : kd = 4
                  · have hd4 : (kd == 4) = true := by simpa using hk4
                    clear hk1 hk2 hk4
                    go_wp2_with fail
                    clear z0
                    refine wp_region_held_drew (S := (fun W => (W.cell? ⟨nO, 0, none⟩ = some (.int .i64 kd) ∧ W.cell? ⟨nO, 1, none⟩ = some (.int .i64 c) ∧ W.cell? ⟨nO, 2, none⟩ = some (.int .i64 i) ∧ W.cell? ⟨nO, 3, none⟩ = some (.slice A m cp) ∧ W.cell? ⟨nO, 4, none⟩ = some (.string (B D)) ∧ W.cell? ⟨nO, 5, none⟩ = some (.string (B V)) ∧ W.cell? ⟨nO, 6, none⟩ = some (.bool gd)) ∧ Blk W nO #[.int .i64 kd, .int .i64 c, .int .i64 i, .slice A m cp, .string (B D), .string (B V), .bool gd] 81)) (by kernel_rfl) ?_ (fun hHeld => ?_)
                    · (try dsimp only); exact HX.out _ HNO.out.drew
                    have HPd := Lib.hid (HP3.out.fr0 (Fr.refl [] W3).drew)
                    have HNd := Lib.hid HNO.out.drew
                    obtain ⟨v0, hv⟩ : ∃ X, W3.drew = X := ⟨_, rfl⟩
                    rw [hv] at hHeld HPd HNd ⊢
                    clear hv
                    refine take_yes 0 137 rfl rfl (by kernel_rfl) (by kernel_rfl) (by kernel_rfl) (fun _ _ _ h => h) (by rfl) (by assumption) (v := ?_) ?_ ?_
                    rotate_left
                    · intro w hSw; (try dsimp only at hSw); go_simp; (try with_reducible rfl)
                    try simp only [Act.put, List.setIfInBounds_toArray, List.set_cons_zero, List.set_cons_succ]
                    refine take_yes 1 138 rfl rfl (by kernel_rfl) (by kernel_rfl) (by kernel_rfl) (fun _ _ _ h => h) (by rfl) (by assumption) (v := ?_) ?_ ?_
                    rotate_left
                    · intro w hSw; (try dsimp only at hSw); go_simp; (try with_reducible rfl)
                    try simp only [Act.put, List.setIfInBounds_toArray, List.set_cons_zero, List.set_cons_succ]
                    refine take_yes 2 139 rfl rfl (by kernel_rfl) (by kernel_rfl) (by kernel_rfl) (fun _ _ _ h => h) (by rfl) (by assumption) (v := ?_) ?_ ?_
                    rotate_left
                    · intro w hSw; (try dsimp only at hSw); go_simp; (try with_reducible rfl)
                    try simp only [Act.put, List.setIfInBounds_toArray, List.set_cons_zero, List.set_cons_succ]
                    refine take_yes 4 141 rfl rfl (by kernel_rfl) (by kernel_rfl) (by kernel_rfl) (fun _ _ _ h => h) (by rfl) (by assumption) (v := ?_) ?_ ?_
                    rotate_left
                    · intro w hSw; (try dsimp only at hSw); go_simp; (try with_reducible rfl)
                    try simp only [Act.put, List.setIfInBounds_toArray, List.set_cons_zero, List.set_cons_succ]
                    refine take_yes 5 142 rfl rfl (by kernel_rfl) (by kernel_rfl) (by kernel_rfl) (fun _ _ _ h => h) (by rfl) (by assumption) (v := ?_) ?_ ?_
                    rotate_left
                    · intro w hSw; (try dsimp only at hSw); go_simp; (try with_reducible rfl)
                    try simp only [Act.put, List.setIfInBounds_toArray, List.set_cons_zero, List.set_cons_succ]
                    refine take_yes 6 143 rfl rfl (by kernel_rfl) (by kernel_rfl) (by kernel_rfl) (fun _ _ _ h => h) (by rfl) (by assumption) (v := ?_) ?_ ?_
                    rotate_left
                    · intro w hSw; (try dsimp only at hSw); go_simp; (try with_reducible rfl)
                    try simp only [Act.put, List.setIfInBounds_toArray, List.set_cons_zero, List.set_cons_succ]
                    refine wpAnyH_ready (rs := [3]) (by kernel_rfl) (by simp) ?_
                    refine AllReadyH.cons (o := _) rfl (fun K hK => ?_) AllReadyH.nil
                    go_simp
                    refine (uSJudge HPd.out.ok HC.out.2.2.2.1 gd HPd.out.sv HPd.out.fr.size).mono ?_
                    rintro e v1 ⟨av, rfl, hO1, hC1, hG1⟩
                    (try go_wp2_with fail)
                    have HQ := Lib.hid (And.intro hO1 (And.intro hC1 hG1))
                    have HN1 := Lib.hid (hG1.blk HNd.out (by simp; intro e; subst e; obtain ⟨cur, hc⟩ := HPd.out.sv.blk; exact HNd.out.neT hc (by decide) rfl))
                    have HD1 := Lib.hid (hG1.blk HPd.out.dc (by simp; exact fun e => HPd.out.gh e.symm))
                    clear hO1 hC1 hG1
                    refine hK.out _ _ ?_ (fun hHeld1 => ?_)
                    · (try dsimp only); exact HX.out _ HN1.out
                    clear hK K hHeld
                    try simp only [Act.put, List.setIfInBounds_toArray, List.set_cons_zero, List.set_cons_succ]
                    refine wpAnyH_ready (rs := [7]) (by kernel_rfl) (by simp) ?_
                    refine AllReadyH.cons (o := _) rfl (fun K hK => ?_) AllReadyH.nil
                    go_simp
                    refine (dsJudge gd HD1.out).mono ?_
                    rintro e v2 ⟨bv, rfl, hO2, hC2, hG2⟩
                    (try go_wp2_with fail)
                    have HN2 := Lib.hid (hG2.blk HN1.out (by simp; intro e; subst e; exact HNd.out.neT HPd.out.dc (by decide) rfl))
                    have HE := Lib.hid (HPd.out.step (HPd.out.ok.judge gd) (SS.judgeO_le _ _) HQ.out.1 HQ.out.2.1 HQ.out.2.2 hO2 hC2 hG2)
                    clear hO2 hC2 hG2
                    refine hK.out _ _ ?_ (fun hHeld2 => ?_)
                    · (try dsimp only); exact HX.out _ HN2.out
                    clear hK K hHeld1
                    try simp only [Act.put, List.setIfInBounds_toArray, List.set_cons_zero, List.set_cons_succ]
                    refine take_yes 8 16 rfl rfl (by kernel_rfl) (by kernel_rfl) (by kernel_rfl) (fun _ _ _ h => h) (by rfl) (by assumption) (v := ?_) ?_ ?_
                    rotate_left
                    · intro w hSw; (try dsimp only at hSw); go_simp; (try with_reducible rfl)
                    try simp only [Act.put, List.setIfInBounds_toArray, List.set_cons_zero, List.set_cons_succ]
                    refine take_yes 9 17 rfl rfl (by kernel_rfl) (by kernel_rfl) (by kernel_rfl) (fun _ _ _ h => h) (by rfl) (by assumption) (v := ?_) ?_ ?_
                    rotate_left
                    · intro w hSw; (try dsimp only at hSw); go_simp; (try with_reducible rfl)
                    try simp only [Act.put, List.setIfInBounds_toArray, List.set_cons_zero, List.set_cons_succ]
                    refine wpAnyH_done (by kernel_rfl) ?_ _
                    clear hHeld2
                    go_wp2_with fail
                    go_meet
                    exact HE.out
                  · have hd4 : (kd == 4) = false := by simpa using hk4
                    by_cases hk5 : kd = 5
                    · have hd5 : (kd == 5) = true := by simpa using hk5
                      clear hk1 hk2 hk4 hk5
                      go_wp2_with fail
                      clear z0
                      refine wp_region_held_drew (S := (fun W => (W.cell? ⟨nO, 0, none⟩ = some (.int .i64 kd) ∧ W.cell? ⟨nO, 1, none⟩ = some (.int .i64 c) ∧ W.cell? ⟨nO, 2, none⟩ = some (.int .i64 i) ∧ W.cell? ⟨nO, 3, none⟩ = some (.slice A m cp) ∧ W.cell? ⟨nO, 4, none⟩ = some (.string (B D)) ∧ W.cell? ⟨nO, 5, none⟩ = some (.string (B V)) ∧ W.cell? ⟨nO, 6, none⟩ = some (.bool gd)) ∧ Blk W nO #[.int .i64 kd, .int .i64 c, .int .i64 i, .slice A m cp, .string (B D), .string (B V), .bool gd] 81)) (by kernel_rfl) ?_ (fun hHeld => ?_)
                      · (try dsimp only); exact HX.out _ HNO.out.drew
                      have HPd := Lib.hid (HP3.out.fr0 (Fr.refl [] W3).drew)
                      have HNd := Lib.hid HNO.out.drew
                      obtain ⟨v0, hv⟩ : ∃ X, W3.drew = X := ⟨_, rfl⟩
                      rw [hv] at hHeld HPd HNd ⊢
                      clear hv
                      refine take_yes 0 147 rfl rfl (by kernel_rfl) (by kernel_rfl) (by kernel_rfl) (fun _ _ _ h => h) (by rfl) (by assumption) (v := ?_) ?_ ?_
                      rotate_left
                      · intro w hSw; (try dsimp only at hSw); go_simp; (try with_reducible rfl)
                      try simp only [Act.put, List.setIfInBounds_toArray, List.set_cons_zero, List.set_cons_succ]
                      refine take_yes 1 148 rfl rfl (by kernel_rfl) (by kernel_rfl) (by kernel_rfl) (fun _ _ _ h => h) (by rfl) (by assumption) (v := ?_) ?_ ?_
                      rotate_left
                      · intro w hSw; (try dsimp only at hSw); go_simp; (try with_reducible rfl)
                      try simp only [Act.put, List.setIfInBounds_toArray, List.set_cons_zero, List.set_cons_succ]
                      refine take_yes 2 149 rfl rfl (by kernel_rfl) (by kernel_rfl) (by kernel_rfl) (fun _ _ _ h => h) (by rfl) (by assumption) (v := ?_) ?_ ?_
                      rotate_left
                      · intro w hSw; (try dsimp only at hSw); go_simp; (try with_reducible rfl)
                      try simp only [Act.put, List.setIfInBounds_toArray, List.set_cons_zero, List.set_cons_succ]
                      refine take_yes 4 151 rfl rfl (by kernel_rfl) (by kernel_rfl) (by kernel_rfl) (fun _ _ _ h => h) (by rfl) (by assumption) (v := ?_) ?_ ?_
                      rotate_left
                      · intro w hSw; (try dsimp only at hSw); go_simp; (try with_reducible rfl)
                      try simp only [Act.put, List.setIfInBounds_toArray, List.set_cons_zero, List.set_cons_succ]
                      refine take_yes 5 152 rfl rfl (by kernel_rfl) (by kernel_rfl) (by kernel_rfl) (fun _ _ _ h => h) (by rfl) (by assumption) (v := ?_) ?_ ?_
                      rotate_left
                      · intro w hSw; (try dsimp only at hSw); go_simp; (try with_reducible rfl)
                      try simp only [Act.put, List.setIfInBounds_toArray, List.set_cons_zero, List.set_cons_succ]
                      refine take_yes 6 153 rfl rfl (by kernel_rfl) (by kernel_rfl) (by kernel_rfl) (fun _ _ _ h => h) (by rfl) (by assumption) (v := ?_) ?_ ?_
                      rotate_left
                      · intro w hSw; (try dsimp only at hSw); go_simp; (try with_reducible rfl)
                      try simp only [Act.put, List.setIfInBounds_toArray, List.set_cons_zero, List.set_cons_succ]
                      refine wpAnyH_ready (rs := [3]) (by kernel_rfl) (by simp) ?_
                      refine AllReadyH.cons (o := _) rfl (fun K hK => ?_) AllReadyH.nil
                      go_simp
                      refine (uSAgain HPd.out.ok HC.out.2.2.2.1 c i A m cp D HPd.out.sv).mono ?_
                      rintro e v1 ⟨av, rfl, hO1, hC1, hG1⟩
                      (try go_wp2_with fail)
                      have HQ := Lib.hid (And.intro hO1 (And.intro hC1 (hG1.mono (S' := [g]) (by simp))))
                      have HN1 := Lib.hid (hG1.blk HNd.out (by simp))
                      have HD1 := Lib.hid (hG1.blk HPd.out.dc (by simp))
                      clear hO1 hC1 hG1
                      refine hK.out _ _ ?_ (fun hHeld1 => ?_)
                      · (try dsimp only); exact HX.out _ HN1.out
                      clear hK K hHeld
                      try simp only [Act.put, List.setIfInBounds_toArray, List.set_cons_zero, List.set_cons_succ]
                      refine wpAnyH_ready (rs := [7]) (by kernel_rfl) (by simp) ?_
                      refine AllReadyH.cons (o := _) rfl (fun K hK => ?_) AllReadyH.nil
                      go_simp
                      refine (dsAgain HPd.out.ok c i A m cp D HD1.out).mono ?_
                      rintro e v2 ⟨bv, rfl, hO2, hG2⟩
                      (try go_wp2_with fail)
                      have HN2 := Lib.hid (hG2.blk HN1.out (by simp))
                      have HE := Lib.hid (HPd.out.step HPd.out.ok (SS.againO_le _ _ _) HQ.out.1 HQ.out.2.1 HQ.out.2.2 hO2 (hG2.blk HD1.out (by simp)) (hG2.mono (S' := [h]) (by simp)))
                      clear hO2 hG2
                      refine hK.out _ _ ?_ (fun hHeld2 => ?_)
                      · (try dsimp only); exact HX.out _ HN2.out
                      clear hK K hHeld1
                      try simp only [Act.put, List.setIfInBounds_toArray, List.set_cons_zero, List.set_cons_succ]
                      refine take_yes 8 16 rfl rfl (by kernel_rfl) (by kernel_rfl) (by kernel_rfl) (fun _ _ _ h => h) (by rfl) (by assumption) (v := ?_) ?_ ?_
                      rotate_left
                      · intro w hSw; (try dsimp only at hSw); go_simp; (try with_reducible rfl)
                      try simp only [Act.put, List.setIfInBounds_toArray, List.set_cons_zero, List.set_cons_succ]
                      refine take_yes 9 17 rfl rfl (by kernel_rfl) (by kernel_rfl) (by kernel_rfl) (fun _ _ _ h => h) (by rfl) (by assumption) (v := ?_) ?_ ?_
                      rotate_left
                      · intro w hSw; (try dsimp only at hSw); go_simp; (try with_reducible rfl)
                      try simp only [Act.put, List.setIfInBounds_toArray, List.set_cons_zero, List.set_cons_succ]
                      refine wpAnyH_done (by kernel_rfl) ?_ _
                      clear hHeld2
                      go_wp2_with fail
                      go_meet
                      exact HE.out
                    · have hd5 : (kd == 5) = false := by simpa using hk5
                      have U1 := Lib.hid (uSTake HP3.out.ok HC.out.2.2.2.1 c i A m cp D HD.out HP3.out.sv)
                      have U2 := Lib.hid fun (W : World) (hB : Blk W h (dsvS n r wt st) 101) => dsTake c i A m cp D HD.out hB
                      obtain ⟨⟨N0, V0, R0, I0⟩, hq⟩ : ∃ q, st.claim c i D = q := ⟨_, rfl⟩
                      obtain ⟨sb, hsb⟩ : ∃ q, decide (st.hit c i D) = q := ⟨_, rfl⟩
                      rw [hq, hsb] at U1 U2
                      dsimp only [clmT] at U1 U2
                      clear hq hsb hk1 hk2 hk4 hk5
                      have z1 : W3.cell? ⟨nO, 1, none⟩ = some (.int .i64 c) := HNO.out.c 1 _ rfl
                      have z2 : W3.cell? ⟨nO, 2, none⟩ = some (.int .i64 i) := HNO.out.c 2 _ rfl
                      have z3 : W3.cell? ⟨nO, 3, none⟩ = some (.slice A m cp) := HNO.out.c 3 _ rfl
                      have z4 : W3.cell? ⟨nO, 4, none⟩ = some (.string (B D)) := HNO.out.c 4 _ rfl
                      go_wp2_with fail
                      refine U1.out.mono ?_
                      rintro e w5 ⟨rfl, hC1, hG1⟩
                      have hN5 := hG1.blk HNO.out (by simp; intro e; subst e; obtain ⟨cur, hc⟩ := HP3.out.sv.blk; exact HNO.out.neT hc (by decide) rfl)
                      have hD5 := hG1.blk HP3.out.dc (by simp; exact fun e => HP3.out.gh e.symm)
                      have hQa := Blk.new w5 #[.string (B N0), .string (B V0), .string (B R0), .int .i64 I0] 94
                      obtain ⟨W6, hW6⟩ : ∃ X, w5.alloc (.cells #[.string (B N0), .string (B V0), .string (B R0), .int .i64 I0] 94 (0, 0)) = X := ⟨_, rfl⟩
                      have hA6 : Fr [] w5 W6 := by rw [← hW6]; exact (Fr.refl _ _).alloc _
                      obtain ⟨qa, hqa⟩ : ∃ X, w5.heap.size = X := ⟨_, rfl⟩
                      rw [hW6, hqa] at hQa
                      have hN6 := hA6.blk hN5 (by simp)
                      have HG := Lib.hid (And.intro (hC1.fr0 hA6) (And.intro (hG1.trans (hA6.mono (S' := [g]) (by simp))) (hA6.blk hD5 (by simp))))
                      have HN6 := Lib.hid hN6
                      have HQa := Lib.hid hQa
                      clear hC1 hG1 hN5 hD5 hA6 U1 z0 z1 z2 z3 z4 hQa
                      have z1 : W6.cell? ⟨nO, 1, none⟩ = some (.int .i64 c) := hN6.c 1 _ rfl
                      have z2 : W6.cell? ⟨nO, 2, none⟩ = some (.int .i64 i) := hN6.c 2 _ rfl
                      have z3 : W6.cell? ⟨nO, 3, none⟩ = some (.slice A m cp) := hN6.c 3 _ rfl
                      have z4 : W6.cell? ⟨nO, 4, none⟩ = some (.string (B D)) := hN6.c 4 _ rfl
                      clear hN6
                      go_wp2_with fail
                      clear hW6 hqa
                      refine (U2.out W6 HG.out.2.2).mono ?_
                      rintro e w7 ⟨rfl, hC2, hG2⟩
                      have hQa7 := hG2.blk HQa.out (by simp; intro e; subst e; exact HQa.out.neT HG.out.2.2 (by decide) rfl)
                      have hQb := Blk.new w7 #[.string (B N0), .string (B V0), .string (B R0), .int .i64 I0] 97
                      obtain ⟨W8, hW8⟩ : ∃ X, w7.alloc (.cells #[.string (B N0), .string (B V0), .string (B R0), .int .i64 I0] 97 (0, 0)) = X := ⟨_, rfl⟩
                      have hA8 : Fr [] w7 W8 := by rw [← hW8]; exact (Fr.refl _ _).alloc _
                      obtain ⟨qb, hqb⟩ : ∃ X, w7.heap.size = X := ⟨_, rfl⟩
                      rw [hW8, hqb] at hQb
                      have hQa8 := hA8.blk hQa7 (by simp)
                      have HE := Lib.hid (HP3.out.step (out := []) (HP3.out.ok.take c i D) (Nat.zero_le 1) (PkO.nil _ _) HG.out.1 HG.out.2.1 (PkO.nil _ _) (hA8.blk hC2 (by simp)) (hG2.trans (hA8.mono (S' := [h]) (by simp))))
                      clear hC2 hG2 hA8 U2 z1 z2 z3 z4 hQa7
                      have a0 : W8.cell? ⟨qa, 0, none⟩ = some (.string (B N0)) := hQa8.c 0 _ rfl
                      have a1 : W8.cell? ⟨qa, 1, none⟩ = some (.string (B V0)) := hQa8.c 1 _ rfl
                      have a2 : W8.cell? ⟨qa, 2, none⟩ = some (.string (B R0)) := hQa8.c 2 _ rfl
                      have a3 : W8.cell? ⟨qa, 3, none⟩ = some (.int .i64 I0) := hQa8.c 3 _ rfl
                      have b0 : W8.cell? ⟨qb, 0, none⟩ = some (.string (B N0)) := hQb.c 0 _ rfl
                      have b1 : W8.cell? ⟨qb, 1, none⟩ = some (.string (B V0)) := hQb.c 1 _ rfl
                      have b2 : W8.cell? ⟨qb, 2, none⟩ = some (.string (B R0)) := hQb.c 2 _ rfl
                      have b3 : W8.cell? ⟨qb, 3, none⟩ = some (.int .i64 I0) := hQb.c 3 _ rfl
                      have hq1 : (B N0 != B N0) = false := str_ne_self N0
                      have hq2 : (B V0 != B V0) = false := str_ne_self V0
                      have hq3 : (B R0 != B R0) = false := str_ne_self R0
                      have hq4 : (sb != sb) = false := by simp
                      have hq5 : (I0 != I0) = false := by simp
                      clear hQb hQa8 HQa HN6 HG
                      go_wp2_with fail
                      clear hW8 hqb
                      go_meet
                      exact HE.out
            case rest =>
              clear HP3 HNO HX z0 y0 y1 y2 y3 y4 y5 y6
              obtain ⟨st, kp, out, A1, c1, A2, c2, base, rfl, rfl, hO1, hO2, hol, hP, hlt, hb0⟩ := hcut
              have SN := Lib.hid (hP.bk.sent hP.fr.size A1 c1 out (rown_base hO1 (Nat.zero_le _)) (by omega) (fun u hu q hq e => by have := hlt u hu q hq; have := own_new hO1 q e; omega) (fun q hq => Nat.le_trans hb0 (own_new hO1 q hq)))
              have HP := Lib.hid hP
              have HO := Lib.hid (And.intro hO1 (And.intro hO2 hol))
              clear hO1 hO2 hol hP hlt hb0
              go_wp2_with fail
              refine SN.out.mono ?_
              rintro e w5 ⟨rfl, ⟨kp', hK5, _⟩, hT5⟩
              have HP5 := Lib.hid (HP.out.sent hK5 hT5)
              have HO5 := Lib.hid (And.intro (hT5.row HO.out.1 (by decide) (by decide) (by decide)) (And.intro (hT5.row HO.out.2.1 (by decide) (by decide) (by decide)) HO.out.2.2))
              clear hK5 hT5 HP HO SN
              obtain ⟨id, t, ag, v, ak, ws, jd, x, y⟩ := st
              obtain ⟨Asd, sl, sc, hSB, _⟩ := HP5.out.sv
              have DN := Lib.hid (sdone_any (by have := HC.out.2.2.2.1; rw [beq_eq_false_iff_ne]; omega) hSB)
              clear hSB
              go_wp2_with fail
              refine DN.out.mono ?_
              rintro e w6 ⟨rfl, hF6⟩
              have SA := Lib.hid (pk_same (w := w6) out A1 A2 c1 c2 ((RAt.of_own pkF_len (rown_base (rown_frS HO5.out.1 hF6 (fun _ _ => List.not_mem_nil)) (Nat.zero_le _)))) ((RAt.of_own pkF_len (rown_base (rown_frS HO5.out.2.1 hF6 (fun _ _ => List.not_mem_nil)) (Nat.zero_le _)))) (by have := HO5.out.2.2; omega))
              have HP6 := Lib.hid (HP5.out.fr0 hF6)
              clear hF6 DN HP5 HO5
              go_wp2_with fail
              refine SA.out.mono ?_
              rintro e w7 ⟨rfl, hF7⟩
              have HP7 := Lib.hid (HP6.out.fr0 hF7)
              have c2' : w7.cell? ⟨h, 10, none⟩ = some (.bool x) := HP7.out.dc.c 10 _ rfl
              have c3' : w7.cell? ⟨h, 11, none⟩ = some (.bool y) := HP7.out.dc.c 11 _ rfl
              have hyy : (x != x) = false := by simp
              have hzz : (y != y) = false := by simp
              clear hF7 SA HP6
              go_wp2_with fail
              go_roundw
              case rel => exact ⟨j + 1, by omega, by go_num, _, _, HP7.out⟩
              case measure => (simp [intOf]) <;> omega
          · obtain rfl : j = len := by omega
            have AP := Lib.hid fun (W : World) (hW : Fr [] wr W) => ((HP0.out.fr0 hW).bk.apart (HP0.out.fr0 hW).fr)
            go_wp2_with fail
            refine (AL.out _).mono ?_
            rintro e w5 ⟨rfl, hF5⟩
            have AP2 := Lib.hid (AP.out _ hF5)
            clear hF5 AP
            go_wp2_with fail
            refine AP2.out.mono ?_
            rintro e w6 ⟨rfl, hF6⟩
            have HF6 := Lib.hid hF6
            clear hF6 AP2
            go_wp2_with fail
            go_ret
            exact ⟨rfl, HF6.out.below (Nat.le_refl _) (by simp)⟩
      · have NB1 := Lib.hid fun (W : World) => NB.out W hE
        have DB1 := Lib.hid fun (W : World) => DB.out W hE
        obtain ⟨X, hX⟩ : ∃ X, snewE n r wt = X := ⟨_, rfl⟩
        rw [hX] at NB1 DB1 hE
        have hx1 : (X == 0) = false := by simpa using hE
        have hx2 : (X != 0) = true := by simpa using hE
        have hx3 : (X != X) = false := by simp
        clear NB DB hE hX
        go_wp2_with fail
        refine (NB1.out _).mono ?_
        rintro e w3 ⟨rfl, hF3⟩
        go_wp2_with fail
        refine (DB1.out _).mono ?_
        rintro e w4 ⟨rfl, hF4⟩
        go_wp2_with fail
        refine (AL.out _).mono ?_
        rintro e w5 ⟨rfl, hF5⟩
        go_wp2_with fail
        go_ret
        exact ⟨rfl, (((hF2.trans hF3).trans hF4).trans hF5).below (Nat.le_refl _) (by simp)⟩
end Go.Proofs.YtfchbppfbepelaaGreat
